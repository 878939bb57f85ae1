/- The machine's side of a law, function by function: a Lean function with the Go function's answers and the proof that the Go code comes to them. No condition. Written by this session's program over the kit's print, this session's own contracts set in. -/
import Derived.Test.YtlijlailbjjfbaaPFnExactPushPairx0
import Derived.Test.YtlijlailbjjfbaaPFnExactPushPairx5
import Derived.Test.YtlijlailbjjfbaaPFnExactPushPairx8
namespace Go.Proofs.Ytlijlailbjjfbaa.PFnExactPushPair
open Go.RowKit Go.Proofs.YtlijlailbjjfbaaW.PrintWords Go.Proofs.YtlijlailbjjfbaaW.PrintLast Go.Proofs.YtlijlailbjjfbaaW.PrintMore
attribute [local go_sem] max2_int min2_int max_two min_two max_three min_three max_four min_four   -- for this text's walks alone
set_option linter.unusedVariables false
set_option linter.unusedSimpArgs false

theorem z_bk {g : Nat} {o : Obj} {w0 w w' : World} (b : Aside0 (w0.heap[g]? = some o)) (hb : Below w.heap.size w w') (h : w0.heap[g]? = some o → w.heap[g]? = some o := by intro h_; (with_reducible repeat (first | refine blk_drewN ?_ _ | refine blk_drew ?_ | refine blk_alloc ?_ _)); exact h_) : Aside0 (w'.heap[g]? = some o) := ⟨blk_below (h b.out) hb⟩
theorem z_nl {g g' : Nat} {o : Obj} {w0 w : World} (b : Aside0 (w0.heap[g]? = some o)) (hg : g' = w.heap.size) (h : w0.heap[g]? = some o → w.heap[g]? = some o := by intro h_; (with_reducible repeat (first | refine blk_drewN ?_ _ | refine blk_drew ?_ | refine blk_alloc ?_ _)); exact h_) : Aside0 (g ≠ g') := ⟨by rw [hg]; exact Nat.ne_of_lt (blk_lt (h b.out))⟩
theorem z_ng {g g' : Nat} {o : Obj} {w0 w : World} (b : Aside0 (w0.heap[g]? = some o)) (hg : g' = w.heap.size) (h : w0.heap[g]? = some o → w.heap[g]? = some o := by intro h_; (with_reducible repeat (first | refine blk_drewN ?_ _ | refine blk_drew ?_ | refine blk_alloc ?_ _)); exact h_) : Aside0 (g' ≠ g) := ⟨by rw [hg]; exact Nat.ne_of_gt (blk_lt (h b.out))⟩
theorem z_gw {g : Nat} {w w1 w2 : World} (b : Aside0 (Below w.heap.size w w1)) (hg : g = w2.heap.size) (h : Below w.heap.size w w1 → Below w.heap.size w w2 := by intro h_; repeat (first | (with_reducible first | exact h_ | apply below_alloc | apply pw_below_drewN | apply below_drew1 | refine below_set ?_ (Aside0.out ‹_›)) | exact h_)) : Aside0 (w.heap.size ≤ g) := ⟨by rw [hg]; exact below_size (h b.out)⟩
theorem z_bs {w w1 w2 w' : World} (b : Aside0 (Below w.heap.size w w1)) (hb : Below w2.heap.size w2 w') (h : Below w.heap.size w w1 → Below w.heap.size w w2 := by intro h_; repeat (first | (with_reducible first | exact h_ | apply below_alloc | apply pw_below_drewN | apply below_drew1 | refine below_set ?_ (Aside0.out ‹_›)) | exact h_)) : Aside0 (Below w.heap.size w w') := ⟨below_step (h b.out) hb⟩
theorem z_n {P : Program} {ops : Array Oper} {Q : Exit → Act → World → Prop} {md : Region.Mode} {S : World → Prop} {ds : List Nat} {fuel : Nat} {l : Array Bool} {a a' : Act} {w : World} (h : wpAnyLast P md ops Q S ds fuel l a' w) (ha : a = a' := by first | (simp only [putAll, Act.put, List.setIfInBounds_toArray, List.set_cons_zero, List.set_cons_succ]; done) | (simp only [putAll, Act.put, List.setIfInBounds_toArray, List.set_cons_zero, List.set_cons_succ]; rfl)) : wpAnyLast P md ops Q S ds fuel l a w := norm_ ha h
theorem z_c {w : World} {g : Nat} {t : TypeId} {cs : Array Value} (b : Aside0 (w.heap[g]? = some (.cells cs t (0, 0)))) (i : Nat) {v : Value} (h : cs[i]? = some v := by exact rfl) : w.cell? ⟨g, i, none⟩ = some v := (blk_cell b.out i).trans h
/-! ### laws_FnExactPushPair: function 4 -/
def laws_FnExactPushPair.f (k : Nat) (a0_0 : Int) (a0_1 : Int) (a0_2 : Int) (a0_3 : Int) (a1_0 : Int) (a1_1 : Int) (a1_2 : Int) (a1_3 : Int) (a2 : Int) : Option (Bool) := (laws_toBody.f a0_0 a0_1 a0_2 a0_3).bind fun bt184 => ((laws_toBody.f a1_0 a1_1 a1_2 a1_3).bind fun bt188 => ((spec_PushPair.f k bt184.1 bt184.2.1 bt184.2.2.1 bt184.2.2.2 bt188.1 bt188.2.1 bt188.2.2.1 bt188.2.2.2 a2).bind fun bt192 => ((laws_toBody.f a0_0 a0_1 a0_2 a0_3).bind fun bt203 => ((laws_toBody.f a1_0 a1_1 a1_2 a1_3).bind fun bt207 => ((impl_PushPair.f k bt203.1 bt203.2.1 bt203.2.2.1 bt203.2.2.2 bt207.1 bt207.2.1 bt207.2.2.1 bt207.2.2.2 a2).bind fun bt211 => ((laws_eqBody.f bt211.1 bt211.2.1 bt211.2.2.1 bt211.2.2.2.1 bt192.1 bt192.2.1 bt192.2.2.1 bt192.2.2.2.1).bind fun t222 => (if t222 = true then ((laws_eqBody.f bt211.2.2.2.2.1 bt211.2.2.2.2.2.1 bt211.2.2.2.2.2.2.1 bt211.2.2.2.2.2.2.2.1 bt192.2.2.2.2.1 bt192.2.2.2.2.2.1 bt192.2.2.2.2.2.2.1 bt192.2.2.2.2.2.2.2.1).bind fun t223 => (if t223 = true then (if (bt211.2.2.2.2.2.2.2.2 != bt192.2.2.2.2.2.2.2.2) = true then (some false) else (some true)) else (some false))) else (some false))))))))
theorem laws_FnExactPushPair.mono : ∀ a0 a1 a2 a3 a4 a5 a6 a7 a8 k, LeO (laws_FnExactPushPair.f k a0 a1 a2 a3 a4 a5 a6 a7 a8) (laws_FnExactPushPair.f (k + 1) a0 a1 a2 a3 a4 a5 a6 a7 a8) := by
 intro a0 a1 a2 a3 a4 a5 a6 a7 a8 k
 unfold laws_FnExactPushPair.f
 repeat' first
   | (with_reducible exact impl_PushPair.mono _ _ _ _ _ _ _ _ _ _)
   | (with_reducible exact spec_PushPair.mono _ _ _ _ _ _ _ _ _ _)
   | (with_reducible exact LeO.refl _)
   | (with_reducible exact LeO.none _)
   | (with_reducible refine LeO.ite ?_ ?_)
   | (with_reducible refine LeO.bind ?_ (fun _ => ?_))
   | exact impl_PushPair.mono _ _ _ _ _ _ _ _ _ _
   | exact spec_PushPair.mono _ _ _ _ _ _ _ _ _ _
   | exact LeO.none _
   | refine LeO.ite ?_ ?_
   | refine LeO.bind ?_ (fun _ => ?_)
def laws_FnExactPushPair.T1 : Bool × List (List Nat × List Nat) := (true, [([], []), ([0], [0]), ([], []), ([2, 1], [2]), ([], []), ([1, 3, 4, 3], [1, 3, 4]), ([5], [5]), ([6], [6]), ([6], [6]), ([6], [6]), ([], []), ([], []), ([10, 7, 5, 0, 1, 2, 3, 4, 5, 6, 7, 10, 11], [7, 10]), ([11, 8, 12, 0, 1, 2, 3, 4, 5, 6, 7, 8, 10, 11, 12], [8, 11]), ([9, 13, 0, 1, 2, 3, 4, 5, 6, 7, 8, 9, 10, 11, 12, 13], [9])])
def laws_FnExactPushPair.B1 : List Nat := [0, 1, 0, 7, 0, 31, 63, 127, 127, 127, 0, 0, 3327, 7679, 16383]
theorem laws_FnExactPushPair.tab1 : rtab .any (opsOf Try.f4 1) = laws_FnExactPushPair.T1 := by kernel_rfl
theorem laws_FnExactPushPair.bits1 : waitsOk laws_FnExactPushPair.T1.2 laws_FnExactPushPair.B1 = true := by kernel_rfl
def laws_FnExactPushPair.T2 : Bool × List (List Nat × List Nat) := (true, [([], []), ([0], [0]), ([], []), ([2, 1], [2]), ([], []), ([1, 3, 4, 3], [1, 3, 4]), ([5], [5]), ([6], [6]), ([6], [6]), ([6], [6]), ([], []), ([], []), ([10, 7, 5, 0, 1, 2, 3, 4, 5, 6, 7, 10, 11], [7, 10]), ([11, 8, 12, 0, 1, 2, 3, 4, 5, 6, 7, 8, 10, 11, 12], [8, 11]), ([9, 13, 0, 1, 2, 3, 4, 5, 6, 7, 8, 9, 10, 11, 12, 13], [9])])
def laws_FnExactPushPair.B2 : List Nat := [0, 1, 0, 7, 0, 31, 63, 127, 127, 127, 0, 0, 3327, 7679, 16383]
theorem laws_FnExactPushPair.tab2 : rtab .any (opsOf Try.f4 2) = laws_FnExactPushPair.T2 := by kernel_rfl
theorem laws_FnExactPushPair.bits2 : waitsOk laws_FnExactPushPair.T2.2 laws_FnExactPushPair.B2 = true := by kernel_rfl
set_option maxHeartbeats 8000000 in
set_option maxRecDepth 100000 in
theorem laws_FnExactPushPair.calls (k : Nat) (a0_0 : Int) (a0_1 : Int) (a0_2 : Int) (a0_3 : Int) (a1_0 : Int) (a1_1 : Int) (a1_2 : Int) (a1_3 : Int) (a2 : Int) (r : Bool) (w : World) (hr_ : r = true) (h : laws_FnExactPushPair.f k a0_0 a0_1 a0_2 a0_3 a1_0 a1_1 a1_2 a1_3 a2 = some r) :
  Calls Try.prog 4 #[.agg #[.int .i64 a0_0, .int .i64 a0_1, .int .i64 a0_2, .int .i64 a0_3], .agg #[.int .i64 a1_0, .int .i64 a1_1, .int .i64 a1_2, .int .i64 a1_3], .int .i64 a2] w fun e w' => e = .returned (.bool r) ∧ Below w.heap.size w w' := by
 have hu30 := Try.underlying30
 have hu31 := Try.underlying31
 have HB := Aside0.mk (Below.refl w.heap.size w)
 have H : ((laws_toBody.f a0_0 a0_1 a0_2 a0_3).bind fun bt184 => ((laws_toBody.f a1_0 a1_1 a1_2 a1_3).bind fun bt188 => ((spec_PushPair.f k bt184.1 bt184.2.1 bt184.2.2.1 bt184.2.2.2 bt188.1 bt188.2.1 bt188.2.2.1 bt188.2.2.2 a2).bind fun bt192 => ((laws_toBody.f a0_0 a0_1 a0_2 a0_3).bind fun bt203 => ((laws_toBody.f a1_0 a1_1 a1_2 a1_3).bind fun bt207 => ((impl_PushPair.f k bt203.1 bt203.2.1 bt203.2.2.1 bt203.2.2.2 bt207.1 bt207.2.1 bt207.2.2.1 bt207.2.2.2 a2).bind fun bt211 => ((laws_eqBody.f bt211.1 bt211.2.1 bt211.2.2.1 bt211.2.2.2.1 bt192.1 bt192.2.1 bt192.2.2.1 bt192.2.2.2.1).bind fun t222 => (if t222 = true then ((laws_eqBody.f bt211.2.2.2.2.1 bt211.2.2.2.2.2.1 bt211.2.2.2.2.2.2.1 bt211.2.2.2.2.2.2.2.1 bt192.2.2.2.2.1 bt192.2.2.2.2.2.1 bt192.2.2.2.2.2.2.1 bt192.2.2.2.2.2.2.2.1).bind fun t223 => (if t223 = true then (if (bt211.2.2.2.2.2.2.2.2 != bt192.2.2.2.2.2.2.2.2) = true then (some false) else (some true)) else (some false))) else (some false))))))))) = some r := h
 clear h
 replace H := Option.bind_eq_some_iff.mp H
 obtain ⟨⟨t184, t185, t186, t187⟩, A40, H⟩ := H
 replace H : ((laws_toBody.f a1_0 a1_1 a1_2 a1_3).bind fun bt188 => ((spec_PushPair.f k t184 t185 t186 t187 bt188.1 bt188.2.1 bt188.2.2.1 bt188.2.2.2 a2).bind fun bt192 => ((laws_toBody.f a0_0 a0_1 a0_2 a0_3).bind fun bt203 => ((laws_toBody.f a1_0 a1_1 a1_2 a1_3).bind fun bt207 => ((impl_PushPair.f k bt203.1 bt203.2.1 bt203.2.2.1 bt203.2.2.2 bt207.1 bt207.2.1 bt207.2.2.1 bt207.2.2.2 a2).bind fun bt211 => ((laws_eqBody.f bt211.1 bt211.2.1 bt211.2.2.1 bt211.2.2.2.1 bt192.1 bt192.2.1 bt192.2.2.1 bt192.2.2.2.1).bind fun t222 => (if t222 = true then ((laws_eqBody.f bt211.2.2.2.2.1 bt211.2.2.2.2.2.1 bt211.2.2.2.2.2.2.1 bt211.2.2.2.2.2.2.2.1 bt192.2.2.2.2.1 bt192.2.2.2.2.2.1 bt192.2.2.2.2.2.2.1 bt192.2.2.2.2.2.2.2.1).bind fun t223 => (if t223 = true then (if (bt211.2.2.2.2.2.2.2.2 != bt192.2.2.2.2.2.2.2.2) = true then (some false) else (some true)) else (some false))) else (some false)))))))) = some r := H
 have A4 := Aside0.mk A40
 clear A40
 replace H := Option.bind_eq_some_iff.mp H
 obtain ⟨⟨t188, t189, t190, t191⟩, A50, H⟩ := H
 replace H : ((spec_PushPair.f k t184 t185 t186 t187 t188 t189 t190 t191 a2).bind fun bt192 => ((laws_toBody.f a0_0 a0_1 a0_2 a0_3).bind fun bt203 => ((laws_toBody.f a1_0 a1_1 a1_2 a1_3).bind fun bt207 => ((impl_PushPair.f k bt203.1 bt203.2.1 bt203.2.2.1 bt203.2.2.2 bt207.1 bt207.2.1 bt207.2.2.1 bt207.2.2.2 a2).bind fun bt211 => ((laws_eqBody.f bt211.1 bt211.2.1 bt211.2.2.1 bt211.2.2.2.1 bt192.1 bt192.2.1 bt192.2.2.1 bt192.2.2.2.1).bind fun t222 => (if t222 = true then ((laws_eqBody.f bt211.2.2.2.2.1 bt211.2.2.2.2.2.1 bt211.2.2.2.2.2.2.1 bt211.2.2.2.2.2.2.2.1 bt192.2.2.2.2.1 bt192.2.2.2.2.2.1 bt192.2.2.2.2.2.2.1 bt192.2.2.2.2.2.2.2.1).bind fun t223 => (if t223 = true then (if (bt211.2.2.2.2.2.2.2.2 != bt192.2.2.2.2.2.2.2.2) = true then (some false) else (some true)) else (some false))) else (some false))))))) = some r := H
 have A5 := Aside0.mk A50
 clear A50
 replace H := Option.bind_eq_some_iff.mp H
 obtain ⟨⟨t192, t193, t194, t195, t196, t197, t198, t199, t200⟩, A60, H⟩ := H
 replace H : ((laws_toBody.f a0_0 a0_1 a0_2 a0_3).bind fun bt203 => ((laws_toBody.f a1_0 a1_1 a1_2 a1_3).bind fun bt207 => ((impl_PushPair.f k bt203.1 bt203.2.1 bt203.2.2.1 bt203.2.2.2 bt207.1 bt207.2.1 bt207.2.2.1 bt207.2.2.2 a2).bind fun bt211 => ((laws_eqBody.f bt211.1 bt211.2.1 bt211.2.2.1 bt211.2.2.2.1 t192 t193 t194 t195).bind fun t222 => (if t222 = true then ((laws_eqBody.f bt211.2.2.2.2.1 bt211.2.2.2.2.2.1 bt211.2.2.2.2.2.2.1 bt211.2.2.2.2.2.2.2.1 t196 t197 t198 t199).bind fun t223 => (if t223 = true then (if (bt211.2.2.2.2.2.2.2.2 != t200) = true then (some false) else (some true)) else (some false))) else (some false)))))) = some r := H
 have A6 := Aside0.mk A60
 clear A60
 replace H := Option.bind_eq_some_iff.mp H
 obtain ⟨⟨t203, t204, t205, t206⟩, A70, H⟩ := H
 replace H : ((laws_toBody.f a1_0 a1_1 a1_2 a1_3).bind fun bt207 => ((impl_PushPair.f k t203 t204 t205 t206 bt207.1 bt207.2.1 bt207.2.2.1 bt207.2.2.2 a2).bind fun bt211 => ((laws_eqBody.f bt211.1 bt211.2.1 bt211.2.2.1 bt211.2.2.2.1 t192 t193 t194 t195).bind fun t222 => (if t222 = true then ((laws_eqBody.f bt211.2.2.2.2.1 bt211.2.2.2.2.2.1 bt211.2.2.2.2.2.2.1 bt211.2.2.2.2.2.2.2.1 t196 t197 t198 t199).bind fun t223 => (if t223 = true then (if (bt211.2.2.2.2.2.2.2.2 != t200) = true then (some false) else (some true)) else (some false))) else (some false))))) = some r := H
 have A7 := Aside0.mk A70
 clear A70
 replace H := Option.bind_eq_some_iff.mp H
 obtain ⟨⟨t207, t208, t209, t210⟩, A80, H⟩ := H
 replace H : ((impl_PushPair.f k t203 t204 t205 t206 t207 t208 t209 t210 a2).bind fun bt211 => ((laws_eqBody.f bt211.1 bt211.2.1 bt211.2.2.1 bt211.2.2.2.1 t192 t193 t194 t195).bind fun t222 => (if t222 = true then ((laws_eqBody.f bt211.2.2.2.2.1 bt211.2.2.2.2.2.1 bt211.2.2.2.2.2.2.1 bt211.2.2.2.2.2.2.2.1 t196 t197 t198 t199).bind fun t223 => (if t223 = true then (if (bt211.2.2.2.2.2.2.2.2 != t200) = true then (some false) else (some true)) else (some false))) else (some false)))) = some r := H
 have A8 := Aside0.mk A80
 clear A80
 replace H := Option.bind_eq_some_iff.mp H
 obtain ⟨⟨t211, t212, t213, t214, t215, t216, t217, t218, t219⟩, A90, H⟩ := H
 replace H : ((laws_eqBody.f t211 t212 t213 t214 t192 t193 t194 t195).bind fun t222 => (if t222 = true then ((laws_eqBody.f t215 t216 t217 t218 t196 t197 t198 t199).bind fun t223 => (if t223 = true then (if (t219 != t200) = true then (some false) else (some true)) else (some false))) else (some false))) = some r := H
 have A9 := Aside0.mk A90
 clear A90
 replace H := Option.bind_eq_some_iff.mp H
 obtain ⟨t222, A100, H⟩ := H
 replace H : (if t222 = true then ((laws_eqBody.f t215 t216 t217 t218 t196 t197 t198 t199).bind fun t223 => (if t223 = true then (if (t219 != t200) = true then (some false) else (some true)) else (some false))) else (some false)) = some r := H
 have A10 := Aside0.mk A100
 clear A100
 by_cases c11 : t222 = true
 ·subst c11
  have H1 : ((laws_eqBody.f t215 t216 t217 t218 t196 t197 t198 t199).bind fun t223 => (if t223 = true then (if (t219 != t200) = true then (some false) else (some true)) else (some false))) = some r := by rw [if_pos rfl] at H; exact H
  clear H
  have H := H1
  clear H1
  replace H := Option.bind_eq_some_iff.mp H
  obtain ⟨t223, A120, H⟩ := H
  replace H : (if t223 = true then (if (t219 != t200) = true then (some false) else (some true)) else (some false)) = some r := H
  have A12 := Aside0.mk A120
  clear A120
  by_cases c13 : t223 = true
  ·subst c13
   have H1 : (if (t219 != t200) = true then (some false) else (some true)) = some r := by rw [if_pos rfl] at H; exact H
   clear H
   have H := H1
   clear H1
   by_cases c14 : (t219 != t200) = true
   ·rw [if_pos c14] at H
    subst hr_; cases H
   ·rw [if_neg c14] at H
    have c14b0 : (t219 != t200) = false := by simpa using c14
    (try (have c14b1 : decide (t219 = t200) = true := by simpa using c14))
    (try (have c14b2 : (t219 == t200) = true := by simpa using c14))
    clear c14
    obtain rfl := Option.some.inj H
    go_enter Try.func4, Try.ntmps4
    try go_wp2_with (first | ((with_reducible refine gate_dst (N := 3) rfl ?_); refine box_event ?hg (N := 3) ?hd (cs := #[.int .i64 a0_0, .int .i64 a0_1, .int .i64 a0_2, .int .i64 a0_3]) (t := 30) ?hr ?_; (case hd => rfl); (case hg => rfl); (case hr => first | (go_simp; done) | (go_simp; rfl)); intro gb182 hg w68 hbox hb; have n0_ := z_bs HB hb; have n1_ := Aside0.mk (hbox); have n2_ := z_gw HB hg; have n3_ := z_gw HB hg; clear HB; have HB := n0_; have BK182 := n1_; have GW182 := n2_; have GE182 := n3_; clear n0_ n1_ n2_ n3_; clear hb hbox hg) | ((with_reducible refine gate_dst (N := 4) rfl ?_); refine box_event ?hg (N := 4) ?hd (cs := #[.int .i64 a1_0, .int .i64 a1_1, .int .i64 a1_2, .int .i64 a1_3]) (t := 30) ?hr ?_; (case hd => rfl); (case hg => rfl); (case hr => first | (go_simp; done) | (go_simp; rfl)); intro gb183 hg w69 hbox hb; have n0_ := z_bk BK182 hb; have n1_ := z_bs HB hb; have n2_ := Aside0.mk (hbox); have n3_ := z_gw HB hg; have n4_ := z_gw HB hg; have n5_ := z_nl BK182 hg; have n6_ := z_ng BK182 hg; clear BK182; clear HB; have BK182 := n0_; have HB := n1_; have BK183 := n2_; have GW183 := n3_; have GE183 := n4_; have NB182_183 := n5_; have NB183_182 := n6_; clear n0_ n1_ n2_ n3_ n4_ n5_ n6_; clear hb hbox hg))
    have n0_ := Aside0.mk (blk_drew BK182.out)
    have n1_ := Aside0.mk (blk_drew BK183.out)
    have n2_ := Aside0.mk (below_drew1 HB.out)
    clear BK182
    clear BK183
    clear HB
    have BK182 := n0_
    have BK183 := n1_
    have HB := n2_
    clear n0_ n1_ n2_
    refine start_ (n := 15) (S := fun w' => w'.cell? ⟨gb182, 0, none⟩ = some (.int .i64 a0_0) ∧ w'.cell? ⟨gb182, 1, none⟩ = some (.int .i64 a0_1) ∧ w'.cell? ⟨gb182, 2, none⟩ = some (.int .i64 a0_2) ∧ w'.cell? ⟨gb182, 3, none⟩ = some (.int .i64 a0_3) ∧ w'.cell? ⟨gb183, 0, none⟩ = some (.int .i64 a1_0) ∧ w'.cell? ⟨gb183, 1, none⟩ = some (.int .i64 a1_1) ∧ w'.cell? ⟨gb183, 2, none⟩ = some (.int .i64 a1_2) ∧ w'.cell? ⟨gb183, 3, none⟩ = some (.int .i64 a1_3)) (ds := []) #[false, false, false, false, false, false, false, false, false, false, false, false, false, false, false] (by kernel_rfl) rfl rfl ⟨z_c BK182 0, z_c BK182 1, z_c BK182 2, z_c BK182 3, z_c BK183 0, z_c BK183 1, z_c BK183 2, z_c BK183 3⟩ (fun hHeld => ?_); refine with_tabW laws_FnExactPushPair.tab1 laws_FnExactPushPair.bits1 (fun HT_ HW_ => ?_)
    generalize w69.drew = w70 at BK182 BK183 HB hHeld ⊢
    refine pure_ (i := 4) (N := some 18) (v := ?_) (a' := ?_) #[false, false, false, false, true, false, false, false, false, false, false, false, false, false, false] rfl rfl (any_of HT_.out (by kernel_rfl)) (fun _ _ _ h => h) (Or.inl ⟨by rfl, ?_⟩) ?_ ?_
    rotate_left
    ·intro w'
     go_simp
     with_reducible rfl
    rotate_left
    ·simp only [Act.put, sp1, sp2, sp3, i64_w, i32_w]
     rfl
    refine take_ (i := 0) (N := some 14) (v := ?_) (a' := ?_) #[true, false, false, false, true, false, false, false, false, false, false, false, false, false, false] rfl rfl (take_ofW HT_.out HW_.out (by kernel_rfl)) (fun _ _ _ h => h) (Or.inl ⟨by rfl, ?_⟩) hHeld ?_ ?_
    rotate_left
    ·rintro w' ⟨s0, s1, s2, s3, s4, s5, s6, s7⟩
     go_simp
     with_reducible rfl
    rotate_left
    ·simp only [Act.put, sp1, sp2, sp3, i64_w, i32_w]
     rfl
    refine take_ (i := 2) (N := some 16) (v := ?_) (a' := ?_) #[true, false, true, false, true, false, false, false, false, false, false, false, false, false, false] rfl rfl (take_ofW HT_.out HW_.out (by kernel_rfl)) (fun _ _ _ h => h) (Or.inl ⟨by rfl, ?_⟩) hHeld ?_ ?_
    rotate_left
    ·rintro w' ⟨s0, s1, s2, s3, s4, s5, s6, s7⟩
     go_simp
     with_reducible rfl
    rotate_left
    ·simp only [Act.put, sp1, sp2, sp3, i64_w, i32_w]
     rfl
    refine join_ (σ := Nat × Nat) 3 #[true, true, true, true, true, true, true, true, true, true, true, true, false, false, false] (fun s_ => [(15, .agg #[.int .i64 t184, .int .i64 t185, .int .i64 t186, .int .i64 t187]), (17, .agg #[.int .i64 t188, .int .i64 t189, .int .i64 t190, .int .i64 t191]), (19, .tuple #[.agg #[.int .i64 t192, .int .i64 t193, .int .i64 t194, .int .i64 t195], .agg #[.int .i64 t196, .int .i64 t197, .int .i64 t198, .int .i64 t199], .bool t200]), (7, .pointer (some ⟨s_.1, 0, none⟩)), (8, .pointer (some ⟨s_.2, 0, none⟩)), (13, .tuple #[.agg #[.int .i64 t192, .int .i64 t193, .int .i64 t194, .int .i64 t195], .agg #[.int .i64 t196, .int .i64 t197, .int .i64 t198, .int .i64 t199], .bool t200]), (20, .agg #[.int .i64 t192, .int .i64 t193, .int .i64 t194, .int .i64 t195]), (21, .agg #[.int .i64 t196, .int .i64 t197, .int .i64 t198, .int .i64 t199]), (22, .bool t200)]) (fun s_ w' => (w'.cell? ⟨gb182, 0, none⟩ = some (.int .i64 a0_0) ∧ w'.cell? ⟨gb182, 1, none⟩ = some (.int .i64 a0_1) ∧ w'.cell? ⟨gb182, 2, none⟩ = some (.int .i64 a0_2) ∧ w'.cell? ⟨gb182, 3, none⟩ = some (.int .i64 a0_3) ∧ w'.cell? ⟨gb183, 0, none⟩ = some (.int .i64 a1_0) ∧ w'.cell? ⟨gb183, 1, none⟩ = some (.int .i64 a1_1) ∧ w'.cell? ⟨gb183, 2, none⟩ = some (.int .i64 a1_2) ∧ w'.cell? ⟨gb183, 3, none⟩ = some (.int .i64 a1_3)) ∧ (w'.heap[gb182]? = some (.cells #[.int .i64 a0_0, .int .i64 a0_1, .int .i64 a0_2, .int .i64 a0_3] 30 (0, 0))) ∧ (w'.heap[gb183]? = some (.cells #[.int .i64 a1_0, .int .i64 a1_1, .int .i64 a1_2, .int .i64 a1_3] 30 (0, 0))) ∧ (w'.heap[s_.1]? = some (.cells #[.int .i64 0, .int .i64 0, .int .i64 0, .int .i64 0] 31 (0, 0))) ∧ (w'.heap[s_.2]? = some (.cells #[.int .i64 0, .int .i64 0, .int .i64 0, .int .i64 0] 31 (0, 0))) ∧ (w.heap.size ≤ s_.1) ∧ (w.heap.size ≤ s_.1) ∧ (gb182 ≠ s_.1) ∧ (s_.1 ≠ gb182) ∧ (gb183 ≠ s_.1) ∧ (s_.1 ≠ gb183) ∧ (s_.2 ≠ s_.1) ∧ (s_.1 ≠ s_.2) ∧ (w.heap.size ≤ s_.2) ∧ (w.heap.size ≤ s_.2) ∧ (gb182 ≠ s_.2) ∧ (s_.2 ≠ gb182) ∧ (gb183 ≠ s_.2) ∧ (s_.2 ≠ gb183) ∧ (Below w.heap.size w w')) ?_ ?_
    rotate_left
    ·intro hJ1_3_5_10_11
     refine join_ (σ := Nat) 4 #[true, true, true, true, true, true, true, true, true, true, true, false, false, false, false] (fun s_ => [(15, .agg #[.int .i64 t184, .int .i64 t185, .int .i64 t186, .int .i64 t187]), (17, .agg #[.int .i64 t188, .int .i64 t189, .int .i64 t190, .int .i64 t191]), (19, .tuple #[.agg #[.int .i64 t192, .int .i64 t193, .int .i64 t194, .int .i64 t195], .agg #[.int .i64 t196, .int .i64 t197, .int .i64 t198, .int .i64 t199], .bool t200]), (7, .pointer (some ⟨s_, 0, none⟩)), (13, .tuple #[.agg #[.int .i64 t192, .int .i64 t193, .int .i64 t194, .int .i64 t195], .agg #[.int .i64 t196, .int .i64 t197, .int .i64 t198, .int .i64 t199], .bool t200]), (20, .agg #[.int .i64 t192, .int .i64 t193, .int .i64 t194, .int .i64 t195]), (21, .agg #[.int .i64 t196, .int .i64 t197, .int .i64 t198, .int .i64 t199]), (22, .bool t200)]) (fun s_ w' => (w'.cell? ⟨gb182, 0, none⟩ = some (.int .i64 a0_0) ∧ w'.cell? ⟨gb182, 1, none⟩ = some (.int .i64 a0_1) ∧ w'.cell? ⟨gb182, 2, none⟩ = some (.int .i64 a0_2) ∧ w'.cell? ⟨gb182, 3, none⟩ = some (.int .i64 a0_3) ∧ w'.cell? ⟨gb183, 0, none⟩ = some (.int .i64 a1_0) ∧ w'.cell? ⟨gb183, 1, none⟩ = some (.int .i64 a1_1) ∧ w'.cell? ⟨gb183, 2, none⟩ = some (.int .i64 a1_2) ∧ w'.cell? ⟨gb183, 3, none⟩ = some (.int .i64 a1_3)) ∧ (w'.heap[gb182]? = some (.cells #[.int .i64 a0_0, .int .i64 a0_1, .int .i64 a0_2, .int .i64 a0_3] 30 (0, 0))) ∧ (w'.heap[gb183]? = some (.cells #[.int .i64 a1_0, .int .i64 a1_1, .int .i64 a1_2, .int .i64 a1_3] 30 (0, 0))) ∧ (w'.heap[s_]? = some (.cells #[.int .i64 0, .int .i64 0, .int .i64 0, .int .i64 0] 31 (0, 0))) ∧ (w.heap.size ≤ s_) ∧ (w.heap.size ≤ s_) ∧ (gb182 ≠ s_) ∧ (s_ ≠ gb182) ∧ (gb183 ≠ s_) ∧ (s_ ≠ gb183) ∧ (Below w.heap.size w w')) ?_ ?_
     rotate_left
     ·intro hJ1_3_5_10
      refine join_ (σ := Nat) 4 #[true, true, true, true, true, true, true, true, true, true, false, true, false, false, false] (fun s_ => [(15, .agg #[.int .i64 t184, .int .i64 t185, .int .i64 t186, .int .i64 t187]), (17, .agg #[.int .i64 t188, .int .i64 t189, .int .i64 t190, .int .i64 t191]), (19, .tuple #[.agg #[.int .i64 t192, .int .i64 t193, .int .i64 t194, .int .i64 t195], .agg #[.int .i64 t196, .int .i64 t197, .int .i64 t198, .int .i64 t199], .bool t200]), (8, .pointer (some ⟨s_, 0, none⟩)), (13, .tuple #[.agg #[.int .i64 t192, .int .i64 t193, .int .i64 t194, .int .i64 t195], .agg #[.int .i64 t196, .int .i64 t197, .int .i64 t198, .int .i64 t199], .bool t200]), (20, .agg #[.int .i64 t192, .int .i64 t193, .int .i64 t194, .int .i64 t195]), (21, .agg #[.int .i64 t196, .int .i64 t197, .int .i64 t198, .int .i64 t199]), (22, .bool t200)]) (fun s_ w' => (w'.cell? ⟨gb182, 0, none⟩ = some (.int .i64 a0_0) ∧ w'.cell? ⟨gb182, 1, none⟩ = some (.int .i64 a0_1) ∧ w'.cell? ⟨gb182, 2, none⟩ = some (.int .i64 a0_2) ∧ w'.cell? ⟨gb182, 3, none⟩ = some (.int .i64 a0_3) ∧ w'.cell? ⟨gb183, 0, none⟩ = some (.int .i64 a1_0) ∧ w'.cell? ⟨gb183, 1, none⟩ = some (.int .i64 a1_1) ∧ w'.cell? ⟨gb183, 2, none⟩ = some (.int .i64 a1_2) ∧ w'.cell? ⟨gb183, 3, none⟩ = some (.int .i64 a1_3)) ∧ (w'.heap[gb182]? = some (.cells #[.int .i64 a0_0, .int .i64 a0_1, .int .i64 a0_2, .int .i64 a0_3] 30 (0, 0))) ∧ (w'.heap[gb183]? = some (.cells #[.int .i64 a1_0, .int .i64 a1_1, .int .i64 a1_2, .int .i64 a1_3] 30 (0, 0))) ∧ (w'.heap[s_]? = some (.cells #[.int .i64 0, .int .i64 0, .int .i64 0, .int .i64 0] 31 (0, 0))) ∧ (w.heap.size ≤ s_) ∧ (w.heap.size ≤ s_) ∧ (gb182 ≠ s_) ∧ (s_ ≠ gb182) ∧ (gb183 ≠ s_) ∧ (s_ ≠ gb183) ∧ (Below w.heap.size w w')) ?_ ?_
      rotate_left
      ·intro hJ1_3_5_11
       refine join_ (σ := Nat × Nat) 8 #[true, true, true, true, true, false, false, false, false, false, true, true, false, false, false] (fun s_ => [(15, .agg #[.int .i64 t184, .int .i64 t185, .int .i64 t186, .int .i64 t187]), (17, .agg #[.int .i64 t188, .int .i64 t189, .int .i64 t190, .int .i64 t191]), (7, .pointer (some ⟨s_.1, 0, none⟩)), (8, .pointer (some ⟨s_.2, 0, none⟩))]) (fun s_ w' => (w'.cell? ⟨gb182, 0, none⟩ = some (.int .i64 a0_0) ∧ w'.cell? ⟨gb182, 1, none⟩ = some (.int .i64 a0_1) ∧ w'.cell? ⟨gb182, 2, none⟩ = some (.int .i64 a0_2) ∧ w'.cell? ⟨gb182, 3, none⟩ = some (.int .i64 a0_3) ∧ w'.cell? ⟨gb183, 0, none⟩ = some (.int .i64 a1_0) ∧ w'.cell? ⟨gb183, 1, none⟩ = some (.int .i64 a1_1) ∧ w'.cell? ⟨gb183, 2, none⟩ = some (.int .i64 a1_2) ∧ w'.cell? ⟨gb183, 3, none⟩ = some (.int .i64 a1_3)) ∧ (w'.heap[gb182]? = some (.cells #[.int .i64 a0_0, .int .i64 a0_1, .int .i64 a0_2, .int .i64 a0_3] 30 (0, 0))) ∧ (w'.heap[gb183]? = some (.cells #[.int .i64 a1_0, .int .i64 a1_1, .int .i64 a1_2, .int .i64 a1_3] 30 (0, 0))) ∧ (w'.heap[s_.1]? = some (.cells #[.int .i64 0, .int .i64 0, .int .i64 0, .int .i64 0] 31 (0, 0))) ∧ (w'.heap[s_.2]? = some (.cells #[.int .i64 0, .int .i64 0, .int .i64 0, .int .i64 0] 31 (0, 0))) ∧ (w.heap.size ≤ s_.1) ∧ (w.heap.size ≤ s_.1) ∧ (gb182 ≠ s_.1) ∧ (s_.1 ≠ gb182) ∧ (gb183 ≠ s_.1) ∧ (s_.1 ≠ gb183) ∧ (s_.2 ≠ s_.1) ∧ (s_.1 ≠ s_.2) ∧ (w.heap.size ≤ s_.2) ∧ (w.heap.size ≤ s_.2) ∧ (gb182 ≠ s_.2) ∧ (s_.2 ≠ gb182) ∧ (gb183 ≠ s_.2) ∧ (s_.2 ≠ gb183) ∧ (Below w.heap.size w w')) ?_ ?_
       rotate_left
       ·intro hJ1_3_10_11
        refine join_ (σ := Unit) 5 #[true, true, true, true, true, true, true, true, true, true, false, false, false, false, false] (fun s_ => [(15, .agg #[.int .i64 t184, .int .i64 t185, .int .i64 t186, .int .i64 t187]), (17, .agg #[.int .i64 t188, .int .i64 t189, .int .i64 t190, .int .i64 t191]), (19, .tuple #[.agg #[.int .i64 t192, .int .i64 t193, .int .i64 t194, .int .i64 t195], .agg #[.int .i64 t196, .int .i64 t197, .int .i64 t198, .int .i64 t199], .bool t200]), (13, .tuple #[.agg #[.int .i64 t192, .int .i64 t193, .int .i64 t194, .int .i64 t195], .agg #[.int .i64 t196, .int .i64 t197, .int .i64 t198, .int .i64 t199], .bool t200]), (20, .agg #[.int .i64 t192, .int .i64 t193, .int .i64 t194, .int .i64 t195]), (21, .agg #[.int .i64 t196, .int .i64 t197, .int .i64 t198, .int .i64 t199]), (22, .bool t200)]) (fun s_ w' => (w'.cell? ⟨gb182, 0, none⟩ = some (.int .i64 a0_0) ∧ w'.cell? ⟨gb182, 1, none⟩ = some (.int .i64 a0_1) ∧ w'.cell? ⟨gb182, 2, none⟩ = some (.int .i64 a0_2) ∧ w'.cell? ⟨gb182, 3, none⟩ = some (.int .i64 a0_3) ∧ w'.cell? ⟨gb183, 0, none⟩ = some (.int .i64 a1_0) ∧ w'.cell? ⟨gb183, 1, none⟩ = some (.int .i64 a1_1) ∧ w'.cell? ⟨gb183, 2, none⟩ = some (.int .i64 a1_2) ∧ w'.cell? ⟨gb183, 3, none⟩ = some (.int .i64 a1_3)) ∧ (w'.heap[gb182]? = some (.cells #[.int .i64 a0_0, .int .i64 a0_1, .int .i64 a0_2, .int .i64 a0_3] 30 (0, 0))) ∧ (w'.heap[gb183]? = some (.cells #[.int .i64 a1_0, .int .i64 a1_1, .int .i64 a1_2, .int .i64 a1_3] 30 (0, 0))) ∧ (Below w.heap.size w w')) ?_ ?_
        rotate_left
        ·intro hJ1_3_5
         refine join_ (σ := Nat) 9 #[true, true, true, true, true, false, false, false, false, false, true, false, false, false, false] (fun s_ => [(15, .agg #[.int .i64 t184, .int .i64 t185, .int .i64 t186, .int .i64 t187]), (17, .agg #[.int .i64 t188, .int .i64 t189, .int .i64 t190, .int .i64 t191]), (7, .pointer (some ⟨s_, 0, none⟩))]) (fun s_ w' => (w'.cell? ⟨gb182, 0, none⟩ = some (.int .i64 a0_0) ∧ w'.cell? ⟨gb182, 1, none⟩ = some (.int .i64 a0_1) ∧ w'.cell? ⟨gb182, 2, none⟩ = some (.int .i64 a0_2) ∧ w'.cell? ⟨gb182, 3, none⟩ = some (.int .i64 a0_3) ∧ w'.cell? ⟨gb183, 0, none⟩ = some (.int .i64 a1_0) ∧ w'.cell? ⟨gb183, 1, none⟩ = some (.int .i64 a1_1) ∧ w'.cell? ⟨gb183, 2, none⟩ = some (.int .i64 a1_2) ∧ w'.cell? ⟨gb183, 3, none⟩ = some (.int .i64 a1_3)) ∧ (w'.heap[gb182]? = some (.cells #[.int .i64 a0_0, .int .i64 a0_1, .int .i64 a0_2, .int .i64 a0_3] 30 (0, 0))) ∧ (w'.heap[gb183]? = some (.cells #[.int .i64 a1_0, .int .i64 a1_1, .int .i64 a1_2, .int .i64 a1_3] 30 (0, 0))) ∧ (w'.heap[s_]? = some (.cells #[.int .i64 0, .int .i64 0, .int .i64 0, .int .i64 0] 31 (0, 0))) ∧ (w.heap.size ≤ s_) ∧ (w.heap.size ≤ s_) ∧ (gb182 ≠ s_) ∧ (s_ ≠ gb182) ∧ (gb183 ≠ s_) ∧ (s_ ≠ gb183) ∧ (Below w.heap.size w w')) ?_ ?_
         rotate_left
         ·intro hJ1_3_10
          refine join_ (σ := Nat) 9 #[true, true, true, true, true, false, false, false, false, false, false, true, false, false, false] (fun s_ => [(15, .agg #[.int .i64 t184, .int .i64 t185, .int .i64 t186, .int .i64 t187]), (17, .agg #[.int .i64 t188, .int .i64 t189, .int .i64 t190, .int .i64 t191]), (8, .pointer (some ⟨s_, 0, none⟩))]) (fun s_ w' => (w'.cell? ⟨gb182, 0, none⟩ = some (.int .i64 a0_0) ∧ w'.cell? ⟨gb182, 1, none⟩ = some (.int .i64 a0_1) ∧ w'.cell? ⟨gb182, 2, none⟩ = some (.int .i64 a0_2) ∧ w'.cell? ⟨gb182, 3, none⟩ = some (.int .i64 a0_3) ∧ w'.cell? ⟨gb183, 0, none⟩ = some (.int .i64 a1_0) ∧ w'.cell? ⟨gb183, 1, none⟩ = some (.int .i64 a1_1) ∧ w'.cell? ⟨gb183, 2, none⟩ = some (.int .i64 a1_2) ∧ w'.cell? ⟨gb183, 3, none⟩ = some (.int .i64 a1_3)) ∧ (w'.heap[gb182]? = some (.cells #[.int .i64 a0_0, .int .i64 a0_1, .int .i64 a0_2, .int .i64 a0_3] 30 (0, 0))) ∧ (w'.heap[gb183]? = some (.cells #[.int .i64 a1_0, .int .i64 a1_1, .int .i64 a1_2, .int .i64 a1_3] 30 (0, 0))) ∧ (w'.heap[s_]? = some (.cells #[.int .i64 0, .int .i64 0, .int .i64 0, .int .i64 0] 31 (0, 0))) ∧ (w.heap.size ≤ s_) ∧ (w.heap.size ≤ s_) ∧ (gb182 ≠ s_) ∧ (s_ ≠ gb182) ∧ (gb183 ≠ s_) ∧ (s_ ≠ gb183) ∧ (Below w.heap.size w w')) ?_ ?_
          rotate_left
          ·intro hJ1_3_11
           refine join_ (σ := Nat × Nat) 9 #[true, true, true, false, true, false, false, false, false, false, true, true, false, false, false] (fun s_ => [(15, .agg #[.int .i64 t184, .int .i64 t185, .int .i64 t186, .int .i64 t187]), (7, .pointer (some ⟨s_.1, 0, none⟩)), (8, .pointer (some ⟨s_.2, 0, none⟩))]) (fun s_ w' => (w'.cell? ⟨gb182, 0, none⟩ = some (.int .i64 a0_0) ∧ w'.cell? ⟨gb182, 1, none⟩ = some (.int .i64 a0_1) ∧ w'.cell? ⟨gb182, 2, none⟩ = some (.int .i64 a0_2) ∧ w'.cell? ⟨gb182, 3, none⟩ = some (.int .i64 a0_3) ∧ w'.cell? ⟨gb183, 0, none⟩ = some (.int .i64 a1_0) ∧ w'.cell? ⟨gb183, 1, none⟩ = some (.int .i64 a1_1) ∧ w'.cell? ⟨gb183, 2, none⟩ = some (.int .i64 a1_2) ∧ w'.cell? ⟨gb183, 3, none⟩ = some (.int .i64 a1_3)) ∧ (w'.heap[gb182]? = some (.cells #[.int .i64 a0_0, .int .i64 a0_1, .int .i64 a0_2, .int .i64 a0_3] 30 (0, 0))) ∧ (w'.heap[gb183]? = some (.cells #[.int .i64 a1_0, .int .i64 a1_1, .int .i64 a1_2, .int .i64 a1_3] 30 (0, 0))) ∧ (w'.heap[s_.1]? = some (.cells #[.int .i64 0, .int .i64 0, .int .i64 0, .int .i64 0] 31 (0, 0))) ∧ (w'.heap[s_.2]? = some (.cells #[.int .i64 0, .int .i64 0, .int .i64 0, .int .i64 0] 31 (0, 0))) ∧ (w.heap.size ≤ s_.1) ∧ (w.heap.size ≤ s_.1) ∧ (gb182 ≠ s_.1) ∧ (s_.1 ≠ gb182) ∧ (gb183 ≠ s_.1) ∧ (s_.1 ≠ gb183) ∧ (s_.2 ≠ s_.1) ∧ (s_.1 ≠ s_.2) ∧ (w.heap.size ≤ s_.2) ∧ (w.heap.size ≤ s_.2) ∧ (gb182 ≠ s_.2) ∧ (s_.2 ≠ gb182) ∧ (gb183 ≠ s_.2) ∧ (s_.2 ≠ gb183) ∧ (Below w.heap.size w w')) ?_ ?_
           rotate_left
           ·intro hJ1_10_11
            refine join_ (σ := Unit) 10 #[true, true, true, true, true, false, false, false, false, false, false, false, false, false, false] (fun s_ => [(15, .agg #[.int .i64 t184, .int .i64 t185, .int .i64 t186, .int .i64 t187]), (17, .agg #[.int .i64 t188, .int .i64 t189, .int .i64 t190, .int .i64 t191])]) (fun s_ w' => (w'.cell? ⟨gb182, 0, none⟩ = some (.int .i64 a0_0) ∧ w'.cell? ⟨gb182, 1, none⟩ = some (.int .i64 a0_1) ∧ w'.cell? ⟨gb182, 2, none⟩ = some (.int .i64 a0_2) ∧ w'.cell? ⟨gb182, 3, none⟩ = some (.int .i64 a0_3) ∧ w'.cell? ⟨gb183, 0, none⟩ = some (.int .i64 a1_0) ∧ w'.cell? ⟨gb183, 1, none⟩ = some (.int .i64 a1_1) ∧ w'.cell? ⟨gb183, 2, none⟩ = some (.int .i64 a1_2) ∧ w'.cell? ⟨gb183, 3, none⟩ = some (.int .i64 a1_3)) ∧ (w'.heap[gb182]? = some (.cells #[.int .i64 a0_0, .int .i64 a0_1, .int .i64 a0_2, .int .i64 a0_3] 30 (0, 0))) ∧ (w'.heap[gb183]? = some (.cells #[.int .i64 a1_0, .int .i64 a1_1, .int .i64 a1_2, .int .i64 a1_3] 30 (0, 0))) ∧ (Below w.heap.size w w')) ?_ ?_
            rotate_left
            ·intro hJ1_3
             refine join_ (σ := Nat) 10 #[true, true, true, false, true, false, false, false, false, false, true, false, false, false, false] (fun s_ => [(15, .agg #[.int .i64 t184, .int .i64 t185, .int .i64 t186, .int .i64 t187]), (7, .pointer (some ⟨s_, 0, none⟩))]) (fun s_ w' => (w'.cell? ⟨gb182, 0, none⟩ = some (.int .i64 a0_0) ∧ w'.cell? ⟨gb182, 1, none⟩ = some (.int .i64 a0_1) ∧ w'.cell? ⟨gb182, 2, none⟩ = some (.int .i64 a0_2) ∧ w'.cell? ⟨gb182, 3, none⟩ = some (.int .i64 a0_3) ∧ w'.cell? ⟨gb183, 0, none⟩ = some (.int .i64 a1_0) ∧ w'.cell? ⟨gb183, 1, none⟩ = some (.int .i64 a1_1) ∧ w'.cell? ⟨gb183, 2, none⟩ = some (.int .i64 a1_2) ∧ w'.cell? ⟨gb183, 3, none⟩ = some (.int .i64 a1_3)) ∧ (w'.heap[gb182]? = some (.cells #[.int .i64 a0_0, .int .i64 a0_1, .int .i64 a0_2, .int .i64 a0_3] 30 (0, 0))) ∧ (w'.heap[gb183]? = some (.cells #[.int .i64 a1_0, .int .i64 a1_1, .int .i64 a1_2, .int .i64 a1_3] 30 (0, 0))) ∧ (w'.heap[s_]? = some (.cells #[.int .i64 0, .int .i64 0, .int .i64 0, .int .i64 0] 31 (0, 0))) ∧ (w.heap.size ≤ s_) ∧ (w.heap.size ≤ s_) ∧ (gb182 ≠ s_) ∧ (s_ ≠ gb182) ∧ (gb183 ≠ s_) ∧ (s_ ≠ gb183) ∧ (Below w.heap.size w w')) ?_ ?_
             rotate_left
             ·intro hJ1_10
              refine join_ (σ := Nat) 10 #[true, true, true, false, true, false, false, false, false, false, false, true, false, false, false] (fun s_ => [(15, .agg #[.int .i64 t184, .int .i64 t185, .int .i64 t186, .int .i64 t187]), (8, .pointer (some ⟨s_, 0, none⟩))]) (fun s_ w' => (w'.cell? ⟨gb182, 0, none⟩ = some (.int .i64 a0_0) ∧ w'.cell? ⟨gb182, 1, none⟩ = some (.int .i64 a0_1) ∧ w'.cell? ⟨gb182, 2, none⟩ = some (.int .i64 a0_2) ∧ w'.cell? ⟨gb182, 3, none⟩ = some (.int .i64 a0_3) ∧ w'.cell? ⟨gb183, 0, none⟩ = some (.int .i64 a1_0) ∧ w'.cell? ⟨gb183, 1, none⟩ = some (.int .i64 a1_1) ∧ w'.cell? ⟨gb183, 2, none⟩ = some (.int .i64 a1_2) ∧ w'.cell? ⟨gb183, 3, none⟩ = some (.int .i64 a1_3)) ∧ (w'.heap[gb182]? = some (.cells #[.int .i64 a0_0, .int .i64 a0_1, .int .i64 a0_2, .int .i64 a0_3] 30 (0, 0))) ∧ (w'.heap[gb183]? = some (.cells #[.int .i64 a1_0, .int .i64 a1_1, .int .i64 a1_2, .int .i64 a1_3] 30 (0, 0))) ∧ (w'.heap[s_]? = some (.cells #[.int .i64 0, .int .i64 0, .int .i64 0, .int .i64 0] 31 (0, 0))) ∧ (w.heap.size ≤ s_) ∧ (w.heap.size ≤ s_) ∧ (gb182 ≠ s_) ∧ (s_ ≠ gb182) ∧ (gb183 ≠ s_) ∧ (s_ ≠ gb183) ∧ (Below w.heap.size w w')) ?_ ?_
              rotate_left
              ·intro hJ1_11
               refine join_ (σ := Nat × Nat) 10 #[true, false, true, false, true, false, false, false, false, false, true, true, false, false, false] (fun s_ => [(7, .pointer (some ⟨s_.1, 0, none⟩)), (8, .pointer (some ⟨s_.2, 0, none⟩))]) (fun s_ w' => (w'.cell? ⟨gb182, 0, none⟩ = some (.int .i64 a0_0) ∧ w'.cell? ⟨gb182, 1, none⟩ = some (.int .i64 a0_1) ∧ w'.cell? ⟨gb182, 2, none⟩ = some (.int .i64 a0_2) ∧ w'.cell? ⟨gb182, 3, none⟩ = some (.int .i64 a0_3) ∧ w'.cell? ⟨gb183, 0, none⟩ = some (.int .i64 a1_0) ∧ w'.cell? ⟨gb183, 1, none⟩ = some (.int .i64 a1_1) ∧ w'.cell? ⟨gb183, 2, none⟩ = some (.int .i64 a1_2) ∧ w'.cell? ⟨gb183, 3, none⟩ = some (.int .i64 a1_3)) ∧ (w'.heap[gb182]? = some (.cells #[.int .i64 a0_0, .int .i64 a0_1, .int .i64 a0_2, .int .i64 a0_3] 30 (0, 0))) ∧ (w'.heap[gb183]? = some (.cells #[.int .i64 a1_0, .int .i64 a1_1, .int .i64 a1_2, .int .i64 a1_3] 30 (0, 0))) ∧ (w'.heap[s_.1]? = some (.cells #[.int .i64 0, .int .i64 0, .int .i64 0, .int .i64 0] 31 (0, 0))) ∧ (w'.heap[s_.2]? = some (.cells #[.int .i64 0, .int .i64 0, .int .i64 0, .int .i64 0] 31 (0, 0))) ∧ (w.heap.size ≤ s_.1) ∧ (w.heap.size ≤ s_.1) ∧ (gb182 ≠ s_.1) ∧ (s_.1 ≠ gb182) ∧ (gb183 ≠ s_.1) ∧ (s_.1 ≠ gb183) ∧ (s_.2 ≠ s_.1) ∧ (s_.1 ≠ s_.2) ∧ (w.heap.size ≤ s_.2) ∧ (w.heap.size ≤ s_.2) ∧ (gb182 ≠ s_.2) ∧ (s_.2 ≠ gb182) ∧ (gb183 ≠ s_.2) ∧ (s_.2 ≠ gb183) ∧ (Below w.heap.size w w')) ?_ ?_
               rotate_left
               ·intro hJ10_11
                refine join_ (σ := Unit) 11 #[true, true, true, false, true, false, false, false, false, false, false, false, false, false, false] (fun s_ => [(15, .agg #[.int .i64 t184, .int .i64 t185, .int .i64 t186, .int .i64 t187])]) (fun s_ w' => (w'.cell? ⟨gb182, 0, none⟩ = some (.int .i64 a0_0) ∧ w'.cell? ⟨gb182, 1, none⟩ = some (.int .i64 a0_1) ∧ w'.cell? ⟨gb182, 2, none⟩ = some (.int .i64 a0_2) ∧ w'.cell? ⟨gb182, 3, none⟩ = some (.int .i64 a0_3) ∧ w'.cell? ⟨gb183, 0, none⟩ = some (.int .i64 a1_0) ∧ w'.cell? ⟨gb183, 1, none⟩ = some (.int .i64 a1_1) ∧ w'.cell? ⟨gb183, 2, none⟩ = some (.int .i64 a1_2) ∧ w'.cell? ⟨gb183, 3, none⟩ = some (.int .i64 a1_3)) ∧ (w'.heap[gb182]? = some (.cells #[.int .i64 a0_0, .int .i64 a0_1, .int .i64 a0_2, .int .i64 a0_3] 30 (0, 0))) ∧ (w'.heap[gb183]? = some (.cells #[.int .i64 a1_0, .int .i64 a1_1, .int .i64 a1_2, .int .i64 a1_3] 30 (0, 0))) ∧ (Below w.heap.size w w')) ?_ ?_
                rotate_left
                ·intro hJ1
                 refine join_ (σ := Nat) 11 #[true, false, true, false, true, false, false, false, false, false, true, false, false, false, false] (fun s_ => [(7, .pointer (some ⟨s_, 0, none⟩))]) (fun s_ w' => (w'.cell? ⟨gb182, 0, none⟩ = some (.int .i64 a0_0) ∧ w'.cell? ⟨gb182, 1, none⟩ = some (.int .i64 a0_1) ∧ w'.cell? ⟨gb182, 2, none⟩ = some (.int .i64 a0_2) ∧ w'.cell? ⟨gb182, 3, none⟩ = some (.int .i64 a0_3) ∧ w'.cell? ⟨gb183, 0, none⟩ = some (.int .i64 a1_0) ∧ w'.cell? ⟨gb183, 1, none⟩ = some (.int .i64 a1_1) ∧ w'.cell? ⟨gb183, 2, none⟩ = some (.int .i64 a1_2) ∧ w'.cell? ⟨gb183, 3, none⟩ = some (.int .i64 a1_3)) ∧ (w'.heap[gb182]? = some (.cells #[.int .i64 a0_0, .int .i64 a0_1, .int .i64 a0_2, .int .i64 a0_3] 30 (0, 0))) ∧ (w'.heap[gb183]? = some (.cells #[.int .i64 a1_0, .int .i64 a1_1, .int .i64 a1_2, .int .i64 a1_3] 30 (0, 0))) ∧ (w'.heap[s_]? = some (.cells #[.int .i64 0, .int .i64 0, .int .i64 0, .int .i64 0] 31 (0, 0))) ∧ (w.heap.size ≤ s_) ∧ (w.heap.size ≤ s_) ∧ (gb182 ≠ s_) ∧ (s_ ≠ gb182) ∧ (gb183 ≠ s_) ∧ (s_ ≠ gb183) ∧ (Below w.heap.size w w')) ?_ ?_
                 rotate_left
                 ·intro hJ10
                  refine join_ (σ := Nat) 11 #[true, false, true, false, true, false, false, false, false, false, false, true, false, false, false] (fun s_ => [(8, .pointer (some ⟨s_, 0, none⟩))]) (fun s_ w' => (w'.cell? ⟨gb182, 0, none⟩ = some (.int .i64 a0_0) ∧ w'.cell? ⟨gb182, 1, none⟩ = some (.int .i64 a0_1) ∧ w'.cell? ⟨gb182, 2, none⟩ = some (.int .i64 a0_2) ∧ w'.cell? ⟨gb182, 3, none⟩ = some (.int .i64 a0_3) ∧ w'.cell? ⟨gb183, 0, none⟩ = some (.int .i64 a1_0) ∧ w'.cell? ⟨gb183, 1, none⟩ = some (.int .i64 a1_1) ∧ w'.cell? ⟨gb183, 2, none⟩ = some (.int .i64 a1_2) ∧ w'.cell? ⟨gb183, 3, none⟩ = some (.int .i64 a1_3)) ∧ (w'.heap[gb182]? = some (.cells #[.int .i64 a0_0, .int .i64 a0_1, .int .i64 a0_2, .int .i64 a0_3] 30 (0, 0))) ∧ (w'.heap[gb183]? = some (.cells #[.int .i64 a1_0, .int .i64 a1_1, .int .i64 a1_2, .int .i64 a1_3] 30 (0, 0))) ∧ (w'.heap[s_]? = some (.cells #[.int .i64 0, .int .i64 0, .int .i64 0, .int .i64 0] 31 (0, 0))) ∧ (w.heap.size ≤ s_) ∧ (w.heap.size ≤ s_) ∧ (gb182 ≠ s_) ∧ (s_ ≠ gb182) ∧ (gb183 ≠ s_) ∧ (s_ ≠ gb183) ∧ (Below w.heap.size w w')) ?_ ?_
                  rotate_left
                  ·intro hJ11
                   refine three_ (i := 1) (j := 10) (k := 11) (Ni := some 15) (Nj := some 7) (Nk := some 8) #[true, true, true, false, true, false, false, false, false, false, false, false, false, false, false] #[true, false, true, false, true, false, false, false, false, false, true, false, false, false, false] #[true, false, true, false, true, false, false, false, false, false, false, true, false, false, false] rfl rfl rfl rfl rfl rfl (three_of HT_.out (by kernel_rfl)) (by decide) (by decide) (by decide) (fun K hK => ?_) (fun K hK => ?_) (fun K hK => ?_)
                   ·skip
                    refine goes_ Try.func21 (by kernel_rfl) rfl #[.agg #[.int .i64 a0_0, .int .i64 a0_1, .int .i64 a0_2, .int .i64 a0_3]] (by rfl) rfl rfl (by (try simp only [List.map_toArray, List.map_cons, List.map_nil]); first | done | rfl | (simp only [List.length_drop, List.length_take]; rfl)) ?_
                    with_reducible refine (laws_toBody.calls a0_0 a0_1 a0_2 a0_3 t184 t185 t186 t187 _ A4.out).mono ?_
                    rintro e w71 ⟨rfl, hb⟩
                    refine ⟨_, rfl, ?_⟩
                    replace BK182 := z_bk BK182 hb; replace BK183 := z_bk BK183 hb; replace HB := z_bs HB hb
                    (try clear hb); (try clear hk)
                    refine hK.out _ _ ⟨z_c BK182 0, z_c BK182 1, z_c BK182 2, z_c BK182 3, z_c BK183 0, z_c BK183 1, z_c BK183 2, z_c BK183 3⟩ (fun hHeld => ?_)
                    clear hK K
                    refine norm_ (a' := ?_) ?_ ?_
                    rotate_left
                    ·show Act.put _ (some 15) _ = _
                     simp only [Act.put, sp1, sp2, sp3, i64_w, i32_w]
                     rfl
                    exact z_n (hJ1 () _ ⟨hHeld, bkw, bkw, blw⟩)
                   ·skip
                    refine box_step ?hg (N := 7) ?hd (cs := #[.int .i64 0, .int .i64 0, .int .i64 0, .int .i64 0]) (t := 31) ?hr ?_; (case hd => rfl); (case hg => rfl); (case hr => first | (go_simp; done) | (go_simp; rfl))
                    intro gb201 hg w71 hbox hb
                    have BK201 := Aside0.mk (hbox); have GW201 := z_gw HB hg; have GE201 := z_gw HB hg; have NB182_201 := z_nl BK182 hg; have NB201_182 := z_ng BK182 hg; have NB183_201 := z_nl BK183 hg; have NB201_183 := z_ng BK183 hg; replace BK182 := z_bk BK182 hb; replace BK183 := z_bk BK183 hb; replace HB := z_bs HB hb
                    clear hb hbox hg
                    refine hK.out _ _ ⟨z_c BK182 0, z_c BK182 1, z_c BK182 2, z_c BK182 3, z_c BK183 0, z_c BK183 1, z_c BK183 2, z_c BK183 3⟩ (fun hHeld => ?_)
                    clear hK K
                    refine norm_ (a' := ?_) ?_ ?_
                    rotate_left
                    ·show Act.put _ (some 7) _ = _
                     simp only [Act.put, sp1, sp2, sp3, i64_w, i32_w]
                     rfl
                    exact z_n (hJ10 (gb201) _ ⟨hHeld, bkw, bkw, bkw, GW201.out, GE201.out, NB182_201.out, NB201_182.out, NB183_201.out, NB201_183.out, blw⟩)
                   ·skip
                    refine box_step ?hg (N := 8) ?hd (cs := #[.int .i64 0, .int .i64 0, .int .i64 0, .int .i64 0]) (t := 31) ?hr ?_; (case hd => rfl); (case hg => rfl); (case hr => first | (go_simp; done) | (go_simp; rfl))
                    intro gb202 hg w71 hbox hb
                    have BK202 := Aside0.mk (hbox); have GW202 := z_gw HB hg; have GE202 := z_gw HB hg; have NB182_202 := z_nl BK182 hg; have NB202_182 := z_ng BK182 hg; have NB183_202 := z_nl BK183 hg; have NB202_183 := z_ng BK183 hg; replace BK182 := z_bk BK182 hb; replace BK183 := z_bk BK183 hb; replace HB := z_bs HB hb
                    clear hb hbox hg
                    refine hK.out _ _ ⟨z_c BK182 0, z_c BK182 1, z_c BK182 2, z_c BK182 3, z_c BK183 0, z_c BK183 1, z_c BK183 2, z_c BK183 3⟩ (fun hHeld => ?_)
                    clear hK K
                    refine norm_ (a' := ?_) ?_ ?_
                    rotate_left
                    ·show Act.put _ (some 8) _ = _
                     simp only [Act.put, sp1, sp2, sp3, i64_w, i32_w]
                     rfl
                    exact z_n (hJ11 (gb202) _ ⟨hHeld, bkw, bkw, bkw, GW202.out, GE202.out, NB182_202.out, NB202_182.out, NB183_202.out, NB202_183.out, blw⟩)
                  ·skip
                   rintro gb202 w72 ⟨hS_, h0_, h1_, h2_, h3_, h4_, h5_, h6_, h7_, h8_, h9_⟩
                   have n0_ : Aside0 (w72.heap[gb182]? = some (.cells #[.int .i64 a0_0, .int .i64 a0_1, .int .i64 a0_2, .int .i64 a0_3] 30 (0, 0))) := ⟨h0_⟩
                   have n1_ : Aside0 (w72.heap[gb183]? = some (.cells #[.int .i64 a1_0, .int .i64 a1_1, .int .i64 a1_2, .int .i64 a1_3] 30 (0, 0))) := ⟨h1_⟩
                   have n2_ : Aside0 (w72.heap[gb202]? = some (.cells #[.int .i64 0, .int .i64 0, .int .i64 0, .int .i64 0] 31 (0, 0))) := ⟨h2_⟩
                   have n3_ : Aside0 (w.heap.size ≤ gb202) := ⟨h3_⟩
                   have n4_ : Aside0 (w.heap.size ≤ gb202) := ⟨h4_⟩
                   have n5_ : Aside0 (gb182 ≠ gb202) := ⟨h5_⟩
                   have n6_ : Aside0 (gb202 ≠ gb182) := ⟨h6_⟩
                   have n7_ : Aside0 (gb183 ≠ gb202) := ⟨h7_⟩
                   have n8_ : Aside0 (gb202 ≠ gb183) := ⟨h8_⟩
                   have n9_ : Aside0 (Below w.heap.size w w72) := ⟨h9_⟩
                   clear BK182
                   clear BK183
                   clear HB
                   clear h0_ h1_ h2_ h3_ h4_ h5_ h6_ h7_ h8_ h9_
                   have BK182 := n0_
                   have BK183 := n1_
                   have BK202 := n2_
                   have GW202 := n3_
                   have GE202 := n4_
                   have NB182_202 := n5_
                   have NB202_182 := n6_
                   have NB183_202 := n7_
                   have NB202_183 := n8_
                   have HB := n9_
                   clear n0_ n1_ n2_ n3_ n4_ n5_ n6_ n7_ n8_ n9_
                   have hHeld : w72.cell? ⟨gb182, 0, none⟩ = some (.int .i64 a0_0) ∧ w72.cell? ⟨gb182, 1, none⟩ = some (.int .i64 a0_1) ∧ w72.cell? ⟨gb182, 2, none⟩ = some (.int .i64 a0_2) ∧ w72.cell? ⟨gb182, 3, none⟩ = some (.int .i64 a0_3) ∧ w72.cell? ⟨gb183, 0, none⟩ = some (.int .i64 a1_0) ∧ w72.cell? ⟨gb183, 1, none⟩ = some (.int .i64 a1_1) ∧ w72.cell? ⟨gb183, 2, none⟩ = some (.int .i64 a1_2) ∧ w72.cell? ⟨gb183, 3, none⟩ = some (.int .i64 a1_3) := hS_
                   refine norm_ (a' := ?_) ?_ ?_
                   rotate_left
                   ·simp only [putAll, Act.put, List.setIfInBounds_toArray, List.set_cons_zero, List.set_cons_succ]
                    rfl
                   refine two_ (i := 1) (j := 10) (Ni := some 15) (Nj := some 7) #[true, true, true, false, true, false, false, false, false, false, false, true, false, false, false] #[true, false, true, false, true, false, false, false, false, false, true, true, false, false, false] rfl rfl rfl rfl (two_of HT_.out (by kernel_rfl)) (by decide) (by decide) (fun K hK => ?_) (fun K hK => ?_)
                   ·skip
                    refine goes_ Try.func21 (by kernel_rfl) rfl #[.agg #[.int .i64 a0_0, .int .i64 a0_1, .int .i64 a0_2, .int .i64 a0_3]] (by rfl) rfl rfl (by (try simp only [List.map_toArray, List.map_cons, List.map_nil]); first | done | rfl | (simp only [List.length_drop, List.length_take]; rfl)) ?_
                    with_reducible refine (laws_toBody.calls a0_0 a0_1 a0_2 a0_3 t184 t185 t186 t187 _ A4.out).mono ?_
                    rintro e w73 ⟨rfl, hb⟩
                    refine ⟨_, rfl, ?_⟩
                    replace BK182 := z_bk BK182 hb; replace BK183 := z_bk BK183 hb; replace BK202 := z_bk BK202 hb; replace HB := z_bs HB hb
                    (try clear hb); (try clear hk)
                    refine hK.out _ _ ⟨z_c BK182 0, z_c BK182 1, z_c BK182 2, z_c BK182 3, z_c BK183 0, z_c BK183 1, z_c BK183 2, z_c BK183 3⟩ (fun hHeld => ?_)
                    clear hK K
                    refine norm_ (a' := ?_) ?_ ?_
                    rotate_left
                    ·show Act.put _ (some 15) _ = _
                     simp only [Act.put, sp1, sp2, sp3, i64_w, i32_w]
                     rfl
                    exact z_n (hJ1_11 (gb202) _ ⟨hHeld, bkw, bkw, bkw, GW202.out, GE202.out, NB182_202.out, NB202_182.out, NB183_202.out, NB202_183.out, blw⟩)
                   ·skip
                    refine box_step ?hg (N := 7) ?hd (cs := #[.int .i64 0, .int .i64 0, .int .i64 0, .int .i64 0]) (t := 31) ?hr ?_; (case hd => rfl); (case hg => rfl); (case hr => first | (go_simp; done) | (go_simp; rfl))
                    intro gb201 hg w73 hbox hb
                    have BK201 := Aside0.mk (hbox); have GW201 := z_gw HB hg; have GE201 := z_gw HB hg; have NB182_201 := z_nl BK182 hg; have NB201_182 := z_ng BK182 hg; have NB183_201 := z_nl BK183 hg; have NB201_183 := z_ng BK183 hg; have NB202_201 := z_nl BK202 hg; have NB201_202 := z_ng BK202 hg; replace BK182 := z_bk BK182 hb; replace BK183 := z_bk BK183 hb; replace BK202 := z_bk BK202 hb; replace HB := z_bs HB hb
                    clear hb hbox hg
                    refine hK.out _ _ ⟨z_c BK182 0, z_c BK182 1, z_c BK182 2, z_c BK182 3, z_c BK183 0, z_c BK183 1, z_c BK183 2, z_c BK183 3⟩ (fun hHeld => ?_)
                    clear hK K
                    refine norm_ (a' := ?_) ?_ ?_
                    rotate_left
                    ·show Act.put _ (some 7) _ = _
                     simp only [Act.put, sp1, sp2, sp3, i64_w, i32_w]
                     rfl
                    exact z_n (hJ10_11 (gb201, gb202) _ ⟨hHeld, bkw, bkw, bkw, bkw, GW201.out, GE201.out, NB182_201.out, NB201_182.out, NB183_201.out, NB201_183.out, NB202_201.out, NB201_202.out, GW202.out, GE202.out, NB182_202.out, NB202_182.out, NB183_202.out, NB202_183.out, blw⟩)
                 ·skip
                  rintro gb201 w72 ⟨hS_, h0_, h1_, h2_, h3_, h4_, h5_, h6_, h7_, h8_, h9_⟩
                  have n0_ : Aside0 (w72.heap[gb182]? = some (.cells #[.int .i64 a0_0, .int .i64 a0_1, .int .i64 a0_2, .int .i64 a0_3] 30 (0, 0))) := ⟨h0_⟩
                  have n1_ : Aside0 (w72.heap[gb183]? = some (.cells #[.int .i64 a1_0, .int .i64 a1_1, .int .i64 a1_2, .int .i64 a1_3] 30 (0, 0))) := ⟨h1_⟩
                  have n2_ : Aside0 (w72.heap[gb201]? = some (.cells #[.int .i64 0, .int .i64 0, .int .i64 0, .int .i64 0] 31 (0, 0))) := ⟨h2_⟩
                  have n3_ : Aside0 (w.heap.size ≤ gb201) := ⟨h3_⟩
                  have n4_ : Aside0 (w.heap.size ≤ gb201) := ⟨h4_⟩
                  have n5_ : Aside0 (gb182 ≠ gb201) := ⟨h5_⟩
                  have n6_ : Aside0 (gb201 ≠ gb182) := ⟨h6_⟩
                  have n7_ : Aside0 (gb183 ≠ gb201) := ⟨h7_⟩
                  have n8_ : Aside0 (gb201 ≠ gb183) := ⟨h8_⟩
                  have n9_ : Aside0 (Below w.heap.size w w72) := ⟨h9_⟩
                  clear BK182
                  clear BK183
                  clear HB
                  clear h0_ h1_ h2_ h3_ h4_ h5_ h6_ h7_ h8_ h9_
                  have BK182 := n0_
                  have BK183 := n1_
                  have BK201 := n2_
                  have GW201 := n3_
                  have GE201 := n4_
                  have NB182_201 := n5_
                  have NB201_182 := n6_
                  have NB183_201 := n7_
                  have NB201_183 := n8_
                  have HB := n9_
                  clear n0_ n1_ n2_ n3_ n4_ n5_ n6_ n7_ n8_ n9_
                  have hHeld : w72.cell? ⟨gb182, 0, none⟩ = some (.int .i64 a0_0) ∧ w72.cell? ⟨gb182, 1, none⟩ = some (.int .i64 a0_1) ∧ w72.cell? ⟨gb182, 2, none⟩ = some (.int .i64 a0_2) ∧ w72.cell? ⟨gb182, 3, none⟩ = some (.int .i64 a0_3) ∧ w72.cell? ⟨gb183, 0, none⟩ = some (.int .i64 a1_0) ∧ w72.cell? ⟨gb183, 1, none⟩ = some (.int .i64 a1_1) ∧ w72.cell? ⟨gb183, 2, none⟩ = some (.int .i64 a1_2) ∧ w72.cell? ⟨gb183, 3, none⟩ = some (.int .i64 a1_3) := hS_
                  refine norm_ (a' := ?_) ?_ ?_
                  rotate_left
                  ·simp only [putAll, Act.put, List.setIfInBounds_toArray, List.set_cons_zero, List.set_cons_succ]
                   rfl
                  refine two_ (i := 1) (j := 11) (Ni := some 15) (Nj := some 8) #[true, true, true, false, true, false, false, false, false, false, true, false, false, false, false] #[true, false, true, false, true, false, false, false, false, false, true, true, false, false, false] rfl rfl rfl rfl (two_of HT_.out (by kernel_rfl)) (by decide) (by decide) (fun K hK => ?_) (fun K hK => ?_)
                  ·skip
                   refine goes_ Try.func21 (by kernel_rfl) rfl #[.agg #[.int .i64 a0_0, .int .i64 a0_1, .int .i64 a0_2, .int .i64 a0_3]] (by rfl) rfl rfl (by (try simp only [List.map_toArray, List.map_cons, List.map_nil]); first | done | rfl | (simp only [List.length_drop, List.length_take]; rfl)) ?_
                   with_reducible refine (laws_toBody.calls a0_0 a0_1 a0_2 a0_3 t184 t185 t186 t187 _ A4.out).mono ?_
                   rintro e w73 ⟨rfl, hb⟩
                   refine ⟨_, rfl, ?_⟩
                   replace BK182 := z_bk BK182 hb; replace BK183 := z_bk BK183 hb; replace BK201 := z_bk BK201 hb; replace HB := z_bs HB hb
                   (try clear hb); (try clear hk)
                   refine hK.out _ _ ⟨z_c BK182 0, z_c BK182 1, z_c BK182 2, z_c BK182 3, z_c BK183 0, z_c BK183 1, z_c BK183 2, z_c BK183 3⟩ (fun hHeld => ?_)
                   clear hK K
                   refine norm_ (a' := ?_) ?_ ?_
                   rotate_left
                   ·show Act.put _ (some 15) _ = _
                    simp only [Act.put, sp1, sp2, sp3, i64_w, i32_w]
                    rfl
                   exact z_n (hJ1_10 (gb201) _ ⟨hHeld, bkw, bkw, bkw, GW201.out, GE201.out, NB182_201.out, NB201_182.out, NB183_201.out, NB201_183.out, blw⟩)
                  ·skip
                   refine box_step ?hg (N := 8) ?hd (cs := #[.int .i64 0, .int .i64 0, .int .i64 0, .int .i64 0]) (t := 31) ?hr ?_; (case hd => rfl); (case hg => rfl); (case hr => first | (go_simp; done) | (go_simp; rfl))
                   intro gb202 hg w73 hbox hb
                   have BK202 := Aside0.mk (hbox); have GW202 := z_gw HB hg; have GE202 := z_gw HB hg; have NB182_202 := z_nl BK182 hg; have NB202_182 := z_ng BK182 hg; have NB183_202 := z_nl BK183 hg; have NB202_183 := z_ng BK183 hg; have NB201_202 := z_nl BK201 hg; have NB202_201 := z_ng BK201 hg; replace BK182 := z_bk BK182 hb; replace BK183 := z_bk BK183 hb; replace BK201 := z_bk BK201 hb; replace HB := z_bs HB hb
                   clear hb hbox hg
                   refine hK.out _ _ ⟨z_c BK182 0, z_c BK182 1, z_c BK182 2, z_c BK182 3, z_c BK183 0, z_c BK183 1, z_c BK183 2, z_c BK183 3⟩ (fun hHeld => ?_)
                   clear hK K
                   refine norm_ (a' := ?_) ?_ ?_
                   rotate_left
                   ·show Act.put _ (some 8) _ = _
                    simp only [Act.put, sp1, sp2, sp3, i64_w, i32_w]
                    rfl
                   exact z_n (hJ10_11 (gb201, gb202) _ ⟨hHeld, bkw, bkw, bkw, bkw, GW201.out, GE201.out, NB182_201.out, NB201_182.out, NB183_201.out, NB201_183.out, NB202_201.out, NB201_202.out, GW202.out, GE202.out, NB182_202.out, NB202_182.out, NB183_202.out, NB202_183.out, blw⟩)
                ·skip
                 rintro _ w72 ⟨hS_, h0_, h1_, h2_⟩
                 have n0_ : Aside0 (w72.heap[gb182]? = some (.cells #[.int .i64 a0_0, .int .i64 a0_1, .int .i64 a0_2, .int .i64 a0_3] 30 (0, 0))) := ⟨h0_⟩
                 have n1_ : Aside0 (w72.heap[gb183]? = some (.cells #[.int .i64 a1_0, .int .i64 a1_1, .int .i64 a1_2, .int .i64 a1_3] 30 (0, 0))) := ⟨h1_⟩
                 have n2_ : Aside0 (Below w.heap.size w w72) := ⟨h2_⟩
                 clear BK182
                 clear BK183
                 clear HB
                 clear h0_ h1_ h2_
                 have BK182 := n0_
                 have BK183 := n1_
                 have HB := n2_
                 clear n0_ n1_ n2_
                 have hHeld : w72.cell? ⟨gb182, 0, none⟩ = some (.int .i64 a0_0) ∧ w72.cell? ⟨gb182, 1, none⟩ = some (.int .i64 a0_1) ∧ w72.cell? ⟨gb182, 2, none⟩ = some (.int .i64 a0_2) ∧ w72.cell? ⟨gb182, 3, none⟩ = some (.int .i64 a0_3) ∧ w72.cell? ⟨gb183, 0, none⟩ = some (.int .i64 a1_0) ∧ w72.cell? ⟨gb183, 1, none⟩ = some (.int .i64 a1_1) ∧ w72.cell? ⟨gb183, 2, none⟩ = some (.int .i64 a1_2) ∧ w72.cell? ⟨gb183, 3, none⟩ = some (.int .i64 a1_3) := hS_
                 refine norm_ (a' := ?_) ?_ ?_
                 rotate_left
                 ·simp only [putAll, Act.put, List.setIfInBounds_toArray, List.set_cons_zero, List.set_cons_succ]
                  rfl
                 refine three_ (i := 3) (j := 10) (k := 11) (Ni := some 17) (Nj := some 7) (Nk := some 8) #[true, true, true, true, true, false, false, false, false, false, false, false, false, false, false] #[true, true, true, false, true, false, false, false, false, false, true, false, false, false, false] #[true, true, true, false, true, false, false, false, false, false, false, true, false, false, false] rfl rfl rfl rfl rfl rfl (three_of HT_.out (by kernel_rfl)) (by decide) (by decide) (by decide) (fun K hK => ?_) (fun K hK => ?_) (fun K hK => ?_)
                 ·skip
                  refine goes_ Try.func21 (by kernel_rfl) rfl #[.agg #[.int .i64 a1_0, .int .i64 a1_1, .int .i64 a1_2, .int .i64 a1_3]] (by rfl) rfl rfl (by (try simp only [List.map_toArray, List.map_cons, List.map_nil]); first | done | rfl | (simp only [List.length_drop, List.length_take]; rfl)) ?_
                  with_reducible refine (laws_toBody.calls a1_0 a1_1 a1_2 a1_3 t188 t189 t190 t191 _ A5.out).mono ?_
                  rintro e w73 ⟨rfl, hb⟩
                  refine ⟨_, rfl, ?_⟩
                  replace BK182 := z_bk BK182 hb; replace BK183 := z_bk BK183 hb; replace HB := z_bs HB hb
                  (try clear hb); (try clear hk)
                  refine hK.out _ _ ⟨z_c BK182 0, z_c BK182 1, z_c BK182 2, z_c BK182 3, z_c BK183 0, z_c BK183 1, z_c BK183 2, z_c BK183 3⟩ (fun hHeld => ?_)
                  clear hK K
                  refine norm_ (a' := ?_) ?_ ?_
                  rotate_left
                  ·show Act.put _ (some 17) _ = _
                   simp only [Act.put, sp1, sp2, sp3, i64_w, i32_w]
                   rfl
                  exact z_n (hJ1_3 () _ ⟨hHeld, bkw, bkw, blw⟩)
                 ·skip
                  refine box_step ?hg (N := 7) ?hd (cs := #[.int .i64 0, .int .i64 0, .int .i64 0, .int .i64 0]) (t := 31) ?hr ?_; (case hd => rfl); (case hg => rfl); (case hr => first | (go_simp; done) | (go_simp; rfl))
                  intro gb201 hg w73 hbox hb
                  have BK201 := Aside0.mk (hbox); have GW201 := z_gw HB hg; have GE201 := z_gw HB hg; have NB182_201 := z_nl BK182 hg; have NB201_182 := z_ng BK182 hg; have NB183_201 := z_nl BK183 hg; have NB201_183 := z_ng BK183 hg; replace BK182 := z_bk BK182 hb; replace BK183 := z_bk BK183 hb; replace HB := z_bs HB hb
                  clear hb hbox hg
                  refine hK.out _ _ ⟨z_c BK182 0, z_c BK182 1, z_c BK182 2, z_c BK182 3, z_c BK183 0, z_c BK183 1, z_c BK183 2, z_c BK183 3⟩ (fun hHeld => ?_)
                  clear hK K
                  refine norm_ (a' := ?_) ?_ ?_
                  rotate_left
                  ·show Act.put _ (some 7) _ = _
                   simp only [Act.put, sp1, sp2, sp3, i64_w, i32_w]
                   rfl
                  exact z_n (hJ1_10 (gb201) _ ⟨hHeld, bkw, bkw, bkw, GW201.out, GE201.out, NB182_201.out, NB201_182.out, NB183_201.out, NB201_183.out, blw⟩)
                 ·skip
                  refine box_step ?hg (N := 8) ?hd (cs := #[.int .i64 0, .int .i64 0, .int .i64 0, .int .i64 0]) (t := 31) ?hr ?_; (case hd => rfl); (case hg => rfl); (case hr => first | (go_simp; done) | (go_simp; rfl))
                  intro gb202 hg w73 hbox hb
                  have BK202 := Aside0.mk (hbox); have GW202 := z_gw HB hg; have GE202 := z_gw HB hg; have NB182_202 := z_nl BK182 hg; have NB202_182 := z_ng BK182 hg; have NB183_202 := z_nl BK183 hg; have NB202_183 := z_ng BK183 hg; replace BK182 := z_bk BK182 hb; replace BK183 := z_bk BK183 hb; replace HB := z_bs HB hb
                  clear hb hbox hg
                  refine hK.out _ _ ⟨z_c BK182 0, z_c BK182 1, z_c BK182 2, z_c BK182 3, z_c BK183 0, z_c BK183 1, z_c BK183 2, z_c BK183 3⟩ (fun hHeld => ?_)
                  clear hK K
                  refine norm_ (a' := ?_) ?_ ?_
                  rotate_left
                  ·show Act.put _ (some 8) _ = _
                   simp only [Act.put, sp1, sp2, sp3, i64_w, i32_w]
                   rfl
                  exact z_n (hJ1_11 (gb202) _ ⟨hHeld, bkw, bkw, bkw, GW202.out, GE202.out, NB182_202.out, NB202_182.out, NB183_202.out, NB202_183.out, blw⟩)
               ·skip
                rintro ⟨gb201, gb202⟩ w73 ⟨hS_, h0_, h1_, h2_, h3_, h4_, h5_, h6_, h7_, h8_, h9_, h10_, h11_, h12_, h13_, h14_, h15_, h16_, h17_, h18_⟩
                have n0_ : Aside0 (w73.heap[gb182]? = some (.cells #[.int .i64 a0_0, .int .i64 a0_1, .int .i64 a0_2, .int .i64 a0_3] 30 (0, 0))) := ⟨h0_⟩
                have n1_ : Aside0 (w73.heap[gb183]? = some (.cells #[.int .i64 a1_0, .int .i64 a1_1, .int .i64 a1_2, .int .i64 a1_3] 30 (0, 0))) := ⟨h1_⟩
                have n2_ : Aside0 (w73.heap[gb201]? = some (.cells #[.int .i64 0, .int .i64 0, .int .i64 0, .int .i64 0] 31 (0, 0))) := ⟨h2_⟩
                have n3_ : Aside0 (w73.heap[gb202]? = some (.cells #[.int .i64 0, .int .i64 0, .int .i64 0, .int .i64 0] 31 (0, 0))) := ⟨h3_⟩
                have n4_ : Aside0 (w.heap.size ≤ gb201) := ⟨h4_⟩
                have n5_ : Aside0 (w.heap.size ≤ gb201) := ⟨h5_⟩
                have n6_ : Aside0 (gb182 ≠ gb201) := ⟨h6_⟩
                have n7_ : Aside0 (gb201 ≠ gb182) := ⟨h7_⟩
                have n8_ : Aside0 (gb183 ≠ gb201) := ⟨h8_⟩
                have n9_ : Aside0 (gb201 ≠ gb183) := ⟨h9_⟩
                have n10_ : Aside0 (gb202 ≠ gb201) := ⟨h10_⟩
                have n11_ : Aside0 (gb201 ≠ gb202) := ⟨h11_⟩
                have n12_ : Aside0 (w.heap.size ≤ gb202) := ⟨h12_⟩
                have n13_ : Aside0 (w.heap.size ≤ gb202) := ⟨h13_⟩
                have n14_ : Aside0 (gb182 ≠ gb202) := ⟨h14_⟩
                have n15_ : Aside0 (gb202 ≠ gb182) := ⟨h15_⟩
                have n16_ : Aside0 (gb183 ≠ gb202) := ⟨h16_⟩
                have n17_ : Aside0 (gb202 ≠ gb183) := ⟨h17_⟩
                have n18_ : Aside0 (Below w.heap.size w w73) := ⟨h18_⟩
                clear BK182
                clear BK183
                clear HB
                clear h0_ h1_ h2_ h3_ h4_ h5_ h6_ h7_ h8_ h9_ h10_ h11_ h12_ h13_ h14_ h15_ h16_ h17_ h18_
                have BK182 := n0_
                have BK183 := n1_
                have BK201 := n2_
                have BK202 := n3_
                have GW201 := n4_
                have GE201 := n5_
                have NB182_201 := n6_
                have NB201_182 := n7_
                have NB183_201 := n8_
                have NB201_183 := n9_
                have NB202_201 := n10_
                have NB201_202 := n11_
                have GW202 := n12_
                have GE202 := n13_
                have NB182_202 := n14_
                have NB202_182 := n15_
                have NB183_202 := n16_
                have NB202_183 := n17_
                have HB := n18_
                clear n0_ n1_ n2_ n3_ n4_ n5_ n6_ n7_ n8_ n9_ n10_ n11_ n12_ n13_ n14_ n15_ n16_ n17_ n18_
                have hHeld : w73.cell? ⟨gb182, 0, none⟩ = some (.int .i64 a0_0) ∧ w73.cell? ⟨gb182, 1, none⟩ = some (.int .i64 a0_1) ∧ w73.cell? ⟨gb182, 2, none⟩ = some (.int .i64 a0_2) ∧ w73.cell? ⟨gb182, 3, none⟩ = some (.int .i64 a0_3) ∧ w73.cell? ⟨gb183, 0, none⟩ = some (.int .i64 a1_0) ∧ w73.cell? ⟨gb183, 1, none⟩ = some (.int .i64 a1_1) ∧ w73.cell? ⟨gb183, 2, none⟩ = some (.int .i64 a1_2) ∧ w73.cell? ⟨gb183, 3, none⟩ = some (.int .i64 a1_3) := hS_
                refine norm_ (a' := ?_) ?_ ?_
                rotate_left
                ·simp only [putAll, Act.put, List.setIfInBounds_toArray, List.set_cons_zero, List.set_cons_succ]
                 rfl
                refine one_ (i := 1) (N := some 15) #[true, true, true, false, true, false, false, false, false, false, true, true, false, false, false] rfl rfl (one_of HT_.out (by kernel_rfl)) (by decide) (fun K hK => ?_)
                refine goes_ Try.func21 (by kernel_rfl) rfl #[.agg #[.int .i64 a0_0, .int .i64 a0_1, .int .i64 a0_2, .int .i64 a0_3]] (by rfl) rfl rfl (by (try simp only [List.map_toArray, List.map_cons, List.map_nil]); first | done | rfl | (simp only [List.length_drop, List.length_take]; rfl)) ?_
                with_reducible refine (laws_toBody.calls a0_0 a0_1 a0_2 a0_3 t184 t185 t186 t187 _ A4.out).mono ?_
                rintro e w74 ⟨rfl, hb⟩
                refine ⟨_, rfl, ?_⟩
                replace BK182 := z_bk BK182 hb; replace BK183 := z_bk BK183 hb; replace BK201 := z_bk BK201 hb; replace BK202 := z_bk BK202 hb; replace HB := z_bs HB hb
                (try clear hb); (try clear hk)
                refine hK.out _ _ ⟨z_c BK182 0, z_c BK182 1, z_c BK182 2, z_c BK182 3, z_c BK183 0, z_c BK183 1, z_c BK183 2, z_c BK183 3⟩ (fun hHeld => ?_)
                clear hK K
                refine norm_ (a' := ?_) ?_ ?_
                rotate_left
                ·show Act.put _ (some 15) _ = _
                 simp only [Act.put, sp1, sp2, sp3, i64_w, i32_w]
                 rfl
                exact z_n (hJ1_10_11 (gb201, gb202) _ ⟨hHeld, bkw, bkw, bkw, bkw, GW201.out, GE201.out, NB182_201.out, NB201_182.out, NB183_201.out, NB201_183.out, NB202_201.out, NB201_202.out, GW202.out, GE202.out, NB182_202.out, NB202_182.out, NB183_202.out, NB202_183.out, blw⟩)
              ·skip
               rintro gb202 w73 ⟨hS_, h0_, h1_, h2_, h3_, h4_, h5_, h6_, h7_, h8_, h9_⟩
               have n0_ : Aside0 (w73.heap[gb182]? = some (.cells #[.int .i64 a0_0, .int .i64 a0_1, .int .i64 a0_2, .int .i64 a0_3] 30 (0, 0))) := ⟨h0_⟩
               have n1_ : Aside0 (w73.heap[gb183]? = some (.cells #[.int .i64 a1_0, .int .i64 a1_1, .int .i64 a1_2, .int .i64 a1_3] 30 (0, 0))) := ⟨h1_⟩
               have n2_ : Aside0 (w73.heap[gb202]? = some (.cells #[.int .i64 0, .int .i64 0, .int .i64 0, .int .i64 0] 31 (0, 0))) := ⟨h2_⟩
               have n3_ : Aside0 (w.heap.size ≤ gb202) := ⟨h3_⟩
               have n4_ : Aside0 (w.heap.size ≤ gb202) := ⟨h4_⟩
               have n5_ : Aside0 (gb182 ≠ gb202) := ⟨h5_⟩
               have n6_ : Aside0 (gb202 ≠ gb182) := ⟨h6_⟩
               have n7_ : Aside0 (gb183 ≠ gb202) := ⟨h7_⟩
               have n8_ : Aside0 (gb202 ≠ gb183) := ⟨h8_⟩
               have n9_ : Aside0 (Below w.heap.size w w73) := ⟨h9_⟩
               clear BK182
               clear BK183
               clear HB
               clear h0_ h1_ h2_ h3_ h4_ h5_ h6_ h7_ h8_ h9_
               have BK182 := n0_
               have BK183 := n1_
               have BK202 := n2_
               have GW202 := n3_
               have GE202 := n4_
               have NB182_202 := n5_
               have NB202_182 := n6_
               have NB183_202 := n7_
               have NB202_183 := n8_
               have HB := n9_
               clear n0_ n1_ n2_ n3_ n4_ n5_ n6_ n7_ n8_ n9_
               have hHeld : w73.cell? ⟨gb182, 0, none⟩ = some (.int .i64 a0_0) ∧ w73.cell? ⟨gb182, 1, none⟩ = some (.int .i64 a0_1) ∧ w73.cell? ⟨gb182, 2, none⟩ = some (.int .i64 a0_2) ∧ w73.cell? ⟨gb182, 3, none⟩ = some (.int .i64 a0_3) ∧ w73.cell? ⟨gb183, 0, none⟩ = some (.int .i64 a1_0) ∧ w73.cell? ⟨gb183, 1, none⟩ = some (.int .i64 a1_1) ∧ w73.cell? ⟨gb183, 2, none⟩ = some (.int .i64 a1_2) ∧ w73.cell? ⟨gb183, 3, none⟩ = some (.int .i64 a1_3) := hS_
               refine norm_ (a' := ?_) ?_ ?_
               rotate_left
               ·simp only [putAll, Act.put, List.setIfInBounds_toArray, List.set_cons_zero, List.set_cons_succ]
                rfl
               refine two_ (i := 3) (j := 10) (Ni := some 17) (Nj := some 7) #[true, true, true, true, true, false, false, false, false, false, false, true, false, false, false] #[true, true, true, false, true, false, false, false, false, false, true, true, false, false, false] rfl rfl rfl rfl (two_of HT_.out (by kernel_rfl)) (by decide) (by decide) (fun K hK => ?_) (fun K hK => ?_)
               ·skip
                refine goes_ Try.func21 (by kernel_rfl) rfl #[.agg #[.int .i64 a1_0, .int .i64 a1_1, .int .i64 a1_2, .int .i64 a1_3]] (by rfl) rfl rfl (by (try simp only [List.map_toArray, List.map_cons, List.map_nil]); first | done | rfl | (simp only [List.length_drop, List.length_take]; rfl)) ?_
                with_reducible refine (laws_toBody.calls a1_0 a1_1 a1_2 a1_3 t188 t189 t190 t191 _ A5.out).mono ?_
                rintro e w74 ⟨rfl, hb⟩
                refine ⟨_, rfl, ?_⟩
                replace BK182 := z_bk BK182 hb; replace BK183 := z_bk BK183 hb; replace BK202 := z_bk BK202 hb; replace HB := z_bs HB hb
                (try clear hb); (try clear hk)
                refine hK.out _ _ ⟨z_c BK182 0, z_c BK182 1, z_c BK182 2, z_c BK182 3, z_c BK183 0, z_c BK183 1, z_c BK183 2, z_c BK183 3⟩ (fun hHeld => ?_)
                clear hK K
                refine norm_ (a' := ?_) ?_ ?_
                rotate_left
                ·show Act.put _ (some 17) _ = _
                 simp only [Act.put, sp1, sp2, sp3, i64_w, i32_w]
                 rfl
                exact z_n (hJ1_3_11 (gb202) _ ⟨hHeld, bkw, bkw, bkw, GW202.out, GE202.out, NB182_202.out, NB202_182.out, NB183_202.out, NB202_183.out, blw⟩)
               ·skip
                refine box_step ?hg (N := 7) ?hd (cs := #[.int .i64 0, .int .i64 0, .int .i64 0, .int .i64 0]) (t := 31) ?hr ?_; (case hd => rfl); (case hg => rfl); (case hr => first | (go_simp; done) | (go_simp; rfl))
                intro gb201 hg w74 hbox hb
                have BK201 := Aside0.mk (hbox); have GW201 := z_gw HB hg; have GE201 := z_gw HB hg; have NB182_201 := z_nl BK182 hg; have NB201_182 := z_ng BK182 hg; have NB183_201 := z_nl BK183 hg; have NB201_183 := z_ng BK183 hg; have NB202_201 := z_nl BK202 hg; have NB201_202 := z_ng BK202 hg; replace BK182 := z_bk BK182 hb; replace BK183 := z_bk BK183 hb; replace BK202 := z_bk BK202 hb; replace HB := z_bs HB hb
                clear hb hbox hg
                refine hK.out _ _ ⟨z_c BK182 0, z_c BK182 1, z_c BK182 2, z_c BK182 3, z_c BK183 0, z_c BK183 1, z_c BK183 2, z_c BK183 3⟩ (fun hHeld => ?_)
                clear hK K
                refine norm_ (a' := ?_) ?_ ?_
                rotate_left
                ·show Act.put _ (some 7) _ = _
                 simp only [Act.put, sp1, sp2, sp3, i64_w, i32_w]
                 rfl
                exact z_n (hJ1_10_11 (gb201, gb202) _ ⟨hHeld, bkw, bkw, bkw, bkw, GW201.out, GE201.out, NB182_201.out, NB201_182.out, NB183_201.out, NB201_183.out, NB202_201.out, NB201_202.out, GW202.out, GE202.out, NB182_202.out, NB202_182.out, NB183_202.out, NB202_183.out, blw⟩)
             ·skip
              rintro gb201 w73 ⟨hS_, h0_, h1_, h2_, h3_, h4_, h5_, h6_, h7_, h8_, h9_⟩
              have n0_ : Aside0 (w73.heap[gb182]? = some (.cells #[.int .i64 a0_0, .int .i64 a0_1, .int .i64 a0_2, .int .i64 a0_3] 30 (0, 0))) := ⟨h0_⟩
              have n1_ : Aside0 (w73.heap[gb183]? = some (.cells #[.int .i64 a1_0, .int .i64 a1_1, .int .i64 a1_2, .int .i64 a1_3] 30 (0, 0))) := ⟨h1_⟩
              have n2_ : Aside0 (w73.heap[gb201]? = some (.cells #[.int .i64 0, .int .i64 0, .int .i64 0, .int .i64 0] 31 (0, 0))) := ⟨h2_⟩
              have n3_ : Aside0 (w.heap.size ≤ gb201) := ⟨h3_⟩
              have n4_ : Aside0 (w.heap.size ≤ gb201) := ⟨h4_⟩
              have n5_ : Aside0 (gb182 ≠ gb201) := ⟨h5_⟩
              have n6_ : Aside0 (gb201 ≠ gb182) := ⟨h6_⟩
              have n7_ : Aside0 (gb183 ≠ gb201) := ⟨h7_⟩
              have n8_ : Aside0 (gb201 ≠ gb183) := ⟨h8_⟩
              have n9_ : Aside0 (Below w.heap.size w w73) := ⟨h9_⟩
              clear BK182
              clear BK183
              clear HB
              clear h0_ h1_ h2_ h3_ h4_ h5_ h6_ h7_ h8_ h9_
              have BK182 := n0_
              have BK183 := n1_
              have BK201 := n2_
              have GW201 := n3_
              have GE201 := n4_
              have NB182_201 := n5_
              have NB201_182 := n6_
              have NB183_201 := n7_
              have NB201_183 := n8_
              have HB := n9_
              clear n0_ n1_ n2_ n3_ n4_ n5_ n6_ n7_ n8_ n9_
              have hHeld : w73.cell? ⟨gb182, 0, none⟩ = some (.int .i64 a0_0) ∧ w73.cell? ⟨gb182, 1, none⟩ = some (.int .i64 a0_1) ∧ w73.cell? ⟨gb182, 2, none⟩ = some (.int .i64 a0_2) ∧ w73.cell? ⟨gb182, 3, none⟩ = some (.int .i64 a0_3) ∧ w73.cell? ⟨gb183, 0, none⟩ = some (.int .i64 a1_0) ∧ w73.cell? ⟨gb183, 1, none⟩ = some (.int .i64 a1_1) ∧ w73.cell? ⟨gb183, 2, none⟩ = some (.int .i64 a1_2) ∧ w73.cell? ⟨gb183, 3, none⟩ = some (.int .i64 a1_3) := hS_
              refine norm_ (a' := ?_) ?_ ?_
              rotate_left
              ·simp only [putAll, Act.put, List.setIfInBounds_toArray, List.set_cons_zero, List.set_cons_succ]
               rfl
              refine two_ (i := 3) (j := 11) (Ni := some 17) (Nj := some 8) #[true, true, true, true, true, false, false, false, false, false, true, false, false, false, false] #[true, true, true, false, true, false, false, false, false, false, true, true, false, false, false] rfl rfl rfl rfl (two_of HT_.out (by kernel_rfl)) (by decide) (by decide) (fun K hK => ?_) (fun K hK => ?_)
              ·skip
               refine goes_ Try.func21 (by kernel_rfl) rfl #[.agg #[.int .i64 a1_0, .int .i64 a1_1, .int .i64 a1_2, .int .i64 a1_3]] (by rfl) rfl rfl (by (try simp only [List.map_toArray, List.map_cons, List.map_nil]); first | done | rfl | (simp only [List.length_drop, List.length_take]; rfl)) ?_
               with_reducible refine (laws_toBody.calls a1_0 a1_1 a1_2 a1_3 t188 t189 t190 t191 _ A5.out).mono ?_
               rintro e w74 ⟨rfl, hb⟩
               refine ⟨_, rfl, ?_⟩
               replace BK182 := z_bk BK182 hb; replace BK183 := z_bk BK183 hb; replace BK201 := z_bk BK201 hb; replace HB := z_bs HB hb
               (try clear hb); (try clear hk)
               refine hK.out _ _ ⟨z_c BK182 0, z_c BK182 1, z_c BK182 2, z_c BK182 3, z_c BK183 0, z_c BK183 1, z_c BK183 2, z_c BK183 3⟩ (fun hHeld => ?_)
               clear hK K
               refine norm_ (a' := ?_) ?_ ?_
               rotate_left
               ·show Act.put _ (some 17) _ = _
                simp only [Act.put, sp1, sp2, sp3, i64_w, i32_w]
                rfl
               exact z_n (hJ1_3_10 (gb201) _ ⟨hHeld, bkw, bkw, bkw, GW201.out, GE201.out, NB182_201.out, NB201_182.out, NB183_201.out, NB201_183.out, blw⟩)
              ·skip
               refine box_step ?hg (N := 8) ?hd (cs := #[.int .i64 0, .int .i64 0, .int .i64 0, .int .i64 0]) (t := 31) ?hr ?_; (case hd => rfl); (case hg => rfl); (case hr => first | (go_simp; done) | (go_simp; rfl))
               intro gb202 hg w74 hbox hb
               have BK202 := Aside0.mk (hbox); have GW202 := z_gw HB hg; have GE202 := z_gw HB hg; have NB182_202 := z_nl BK182 hg; have NB202_182 := z_ng BK182 hg; have NB183_202 := z_nl BK183 hg; have NB202_183 := z_ng BK183 hg; have NB201_202 := z_nl BK201 hg; have NB202_201 := z_ng BK201 hg; replace BK182 := z_bk BK182 hb; replace BK183 := z_bk BK183 hb; replace BK201 := z_bk BK201 hb; replace HB := z_bs HB hb
               clear hb hbox hg
               refine hK.out _ _ ⟨z_c BK182 0, z_c BK182 1, z_c BK182 2, z_c BK182 3, z_c BK183 0, z_c BK183 1, z_c BK183 2, z_c BK183 3⟩ (fun hHeld => ?_)
               clear hK K
               refine norm_ (a' := ?_) ?_ ?_
               rotate_left
               ·show Act.put _ (some 8) _ = _
                simp only [Act.put, sp1, sp2, sp3, i64_w, i32_w]
                rfl
               exact z_n (hJ1_10_11 (gb201, gb202) _ ⟨hHeld, bkw, bkw, bkw, bkw, GW201.out, GE201.out, NB182_201.out, NB201_182.out, NB183_201.out, NB201_183.out, NB202_201.out, NB201_202.out, GW202.out, GE202.out, NB182_202.out, NB202_182.out, NB183_202.out, NB202_183.out, blw⟩)
            ·skip
             rintro _ w73 ⟨hS_, h0_, h1_, h2_⟩
             have n0_ : Aside0 (w73.heap[gb182]? = some (.cells #[.int .i64 a0_0, .int .i64 a0_1, .int .i64 a0_2, .int .i64 a0_3] 30 (0, 0))) := ⟨h0_⟩
             have n1_ : Aside0 (w73.heap[gb183]? = some (.cells #[.int .i64 a1_0, .int .i64 a1_1, .int .i64 a1_2, .int .i64 a1_3] 30 (0, 0))) := ⟨h1_⟩
             have n2_ : Aside0 (Below w.heap.size w w73) := ⟨h2_⟩
             clear BK182
             clear BK183
             clear HB
             clear h0_ h1_ h2_
             have BK182 := n0_
             have BK183 := n1_
             have HB := n2_
             clear n0_ n1_ n2_
             have hHeld : w73.cell? ⟨gb182, 0, none⟩ = some (.int .i64 a0_0) ∧ w73.cell? ⟨gb182, 1, none⟩ = some (.int .i64 a0_1) ∧ w73.cell? ⟨gb182, 2, none⟩ = some (.int .i64 a0_2) ∧ w73.cell? ⟨gb182, 3, none⟩ = some (.int .i64 a0_3) ∧ w73.cell? ⟨gb183, 0, none⟩ = some (.int .i64 a1_0) ∧ w73.cell? ⟨gb183, 1, none⟩ = some (.int .i64 a1_1) ∧ w73.cell? ⟨gb183, 2, none⟩ = some (.int .i64 a1_2) ∧ w73.cell? ⟨gb183, 3, none⟩ = some (.int .i64 a1_3) := hS_
             refine norm_ (a' := ?_) ?_ ?_
             rotate_left
             ·simp only [putAll, Act.put, List.setIfInBounds_toArray, List.set_cons_zero, List.set_cons_succ]
              rfl
             refine three_ (i := 5) (j := 10) (k := 11) (Ni := some 19) (Nj := some 7) (Nk := some 8) #[true, true, true, true, true, true, false, false, false, false, false, false, false, false, false] #[true, true, true, true, true, false, false, false, false, false, true, false, false, false, false] #[true, true, true, true, true, false, false, false, false, false, false, true, false, false, false] rfl rfl rfl rfl rfl rfl (three_of HT_.out (by kernel_rfl)) (by decide) (by decide) (by decide) (fun K hK => ?_) (fun K hK => ?_) (fun K hK => ?_)
             ·skip
              refine goes_ Try.func20 (by kernel_rfl) rfl #[.agg #[.int .i64 t184, .int .i64 t185, .int .i64 t186, .int .i64 t187], .agg #[.int .i64 t188, .int .i64 t189, .int .i64 t190, .int .i64 t191], .int .i64 a2] (by rfl) rfl rfl (by (try simp only [List.map_toArray, List.map_cons, List.map_nil]); first | done | rfl | (simp only [List.length_drop, List.length_take]; rfl)) ?_
              with_reducible refine (spec_PushPair.calls k t184 t185 t186 t187 t188 t189 t190 t191 a2 t192 t193 t194 t195 t196 t197 t198 t199 t200 _ A6.out).mono ?_
              rintro e w74 ⟨rfl, hb⟩
              refine ⟨_, rfl, ?_⟩
              replace BK182 := z_bk BK182 hb; replace BK183 := z_bk BK183 hb; replace HB := z_bs HB hb
              (try clear hb); (try clear hk)
              refine hK.out _ _ ⟨z_c BK182 0, z_c BK182 1, z_c BK182 2, z_c BK182 3, z_c BK183 0, z_c BK183 1, z_c BK183 2, z_c BK183 3⟩ (fun hHeld => ?_)
              clear hK K
              refine norm_ (a' := ?_) ?_ ?_
              rotate_left
              ·show Act.put _ (some 19) _ = _
               simp only [Act.put, sp1, sp2, sp3, i64_w, i32_w]
               rfl
              refine pure_ (i := 6) (N := some 13) (v := ?_) (a' := ?_) #[true, true, true, true, true, true, true, false, false, false, false, false, false, false, false] rfl rfl (any_of HT_.out (by kernel_rfl)) (fun _ _ _ h => h) (Or.inl ⟨by rfl, ?_⟩) ?_ ?_
              rotate_left
              ·intro w'
               go_simp
               with_reducible rfl
              rotate_left
              ·simp only [Act.put, sp1, sp2, sp3, i64_w, i32_w]
               rfl
              refine pure_ (i := 7) (N := some 20) (v := ?_) (a' := ?_) #[true, true, true, true, true, true, true, true, false, false, false, false, false, false, false] rfl rfl (any_of HT_.out (by kernel_rfl)) (fun _ _ _ h => h) (Or.inl ⟨by rfl, ?_⟩) ?_ ?_
              rotate_left
              ·intro w'
               go_simp
               with_reducible rfl
              rotate_left
              ·simp only [Act.put, sp1, sp2, sp3, i64_w, i32_w]
               rfl
              refine pure_ (i := 8) (N := some 21) (v := ?_) (a' := ?_) #[true, true, true, true, true, true, true, true, true, false, false, false, false, false, false] rfl rfl (any_of HT_.out (by kernel_rfl)) (fun _ _ _ h => h) (Or.inl ⟨by rfl, ?_⟩) ?_ ?_
              rotate_left
              ·intro w'
               go_simp
               with_reducible rfl
              rotate_left
              ·simp only [Act.put, sp1, sp2, sp3, i64_w, i32_w]
               rfl
              refine pure_ (i := 9) (N := some 22) (v := ?_) (a' := ?_) #[true, true, true, true, true, true, true, true, true, true, false, false, false, false, false] rfl rfl (any_of HT_.out (by kernel_rfl)) (fun _ _ _ h => h) (Or.inl ⟨by rfl, ?_⟩) ?_ ?_
              rotate_left
              ·intro w'
               go_simp
               with_reducible rfl
              rotate_left
              ·simp only [Act.put, sp1, sp2, sp3, i64_w, i32_w]
               rfl
              exact z_n (hJ1_3_5 () _ ⟨hHeld, bkw, bkw, blw⟩)
             ·skip
              refine box_step ?hg (N := 7) ?hd (cs := #[.int .i64 0, .int .i64 0, .int .i64 0, .int .i64 0]) (t := 31) ?hr ?_; (case hd => rfl); (case hg => rfl); (case hr => first | (go_simp; done) | (go_simp; rfl))
              intro gb201 hg w74 hbox hb
              have BK201 := Aside0.mk (hbox); have GW201 := z_gw HB hg; have GE201 := z_gw HB hg; have NB182_201 := z_nl BK182 hg; have NB201_182 := z_ng BK182 hg; have NB183_201 := z_nl BK183 hg; have NB201_183 := z_ng BK183 hg; replace BK182 := z_bk BK182 hb; replace BK183 := z_bk BK183 hb; replace HB := z_bs HB hb
              clear hb hbox hg
              refine hK.out _ _ ⟨z_c BK182 0, z_c BK182 1, z_c BK182 2, z_c BK182 3, z_c BK183 0, z_c BK183 1, z_c BK183 2, z_c BK183 3⟩ (fun hHeld => ?_)
              clear hK K
              refine norm_ (a' := ?_) ?_ ?_
              rotate_left
              ·show Act.put _ (some 7) _ = _
               simp only [Act.put, sp1, sp2, sp3, i64_w, i32_w]
               rfl
              exact z_n (hJ1_3_10 (gb201) _ ⟨hHeld, bkw, bkw, bkw, GW201.out, GE201.out, NB182_201.out, NB201_182.out, NB183_201.out, NB201_183.out, blw⟩)
             ·skip
              refine box_step ?hg (N := 8) ?hd (cs := #[.int .i64 0, .int .i64 0, .int .i64 0, .int .i64 0]) (t := 31) ?hr ?_; (case hd => rfl); (case hg => rfl); (case hr => first | (go_simp; done) | (go_simp; rfl))
              intro gb202 hg w74 hbox hb
              have BK202 := Aside0.mk (hbox); have GW202 := z_gw HB hg; have GE202 := z_gw HB hg; have NB182_202 := z_nl BK182 hg; have NB202_182 := z_ng BK182 hg; have NB183_202 := z_nl BK183 hg; have NB202_183 := z_ng BK183 hg; replace BK182 := z_bk BK182 hb; replace BK183 := z_bk BK183 hb; replace HB := z_bs HB hb
              clear hb hbox hg
              refine hK.out _ _ ⟨z_c BK182 0, z_c BK182 1, z_c BK182 2, z_c BK182 3, z_c BK183 0, z_c BK183 1, z_c BK183 2, z_c BK183 3⟩ (fun hHeld => ?_)
              clear hK K
              refine norm_ (a' := ?_) ?_ ?_
              rotate_left
              ·show Act.put _ (some 8) _ = _
               simp only [Act.put, sp1, sp2, sp3, i64_w, i32_w]
               rfl
              exact z_n (hJ1_3_11 (gb202) _ ⟨hHeld, bkw, bkw, bkw, GW202.out, GE202.out, NB182_202.out, NB202_182.out, NB183_202.out, NB202_183.out, blw⟩)
           ·skip
            rintro ⟨gb201, gb202⟩ w74 ⟨hS_, h0_, h1_, h2_, h3_, h4_, h5_, h6_, h7_, h8_, h9_, h10_, h11_, h12_, h13_, h14_, h15_, h16_, h17_, h18_⟩
            have n0_ : Aside0 (w74.heap[gb182]? = some (.cells #[.int .i64 a0_0, .int .i64 a0_1, .int .i64 a0_2, .int .i64 a0_3] 30 (0, 0))) := ⟨h0_⟩
            have n1_ : Aside0 (w74.heap[gb183]? = some (.cells #[.int .i64 a1_0, .int .i64 a1_1, .int .i64 a1_2, .int .i64 a1_3] 30 (0, 0))) := ⟨h1_⟩
            have n2_ : Aside0 (w74.heap[gb201]? = some (.cells #[.int .i64 0, .int .i64 0, .int .i64 0, .int .i64 0] 31 (0, 0))) := ⟨h2_⟩
            have n3_ : Aside0 (w74.heap[gb202]? = some (.cells #[.int .i64 0, .int .i64 0, .int .i64 0, .int .i64 0] 31 (0, 0))) := ⟨h3_⟩
            have n4_ : Aside0 (w.heap.size ≤ gb201) := ⟨h4_⟩
            have n5_ : Aside0 (w.heap.size ≤ gb201) := ⟨h5_⟩
            have n6_ : Aside0 (gb182 ≠ gb201) := ⟨h6_⟩
            have n7_ : Aside0 (gb201 ≠ gb182) := ⟨h7_⟩
            have n8_ : Aside0 (gb183 ≠ gb201) := ⟨h8_⟩
            have n9_ : Aside0 (gb201 ≠ gb183) := ⟨h9_⟩
            have n10_ : Aside0 (gb202 ≠ gb201) := ⟨h10_⟩
            have n11_ : Aside0 (gb201 ≠ gb202) := ⟨h11_⟩
            have n12_ : Aside0 (w.heap.size ≤ gb202) := ⟨h12_⟩
            have n13_ : Aside0 (w.heap.size ≤ gb202) := ⟨h13_⟩
            have n14_ : Aside0 (gb182 ≠ gb202) := ⟨h14_⟩
            have n15_ : Aside0 (gb202 ≠ gb182) := ⟨h15_⟩
            have n16_ : Aside0 (gb183 ≠ gb202) := ⟨h16_⟩
            have n17_ : Aside0 (gb202 ≠ gb183) := ⟨h17_⟩
            have n18_ : Aside0 (Below w.heap.size w w74) := ⟨h18_⟩
            clear BK182
            clear BK183
            clear HB
            clear h0_ h1_ h2_ h3_ h4_ h5_ h6_ h7_ h8_ h9_ h10_ h11_ h12_ h13_ h14_ h15_ h16_ h17_ h18_
            have BK182 := n0_
            have BK183 := n1_
            have BK201 := n2_
            have BK202 := n3_
            have GW201 := n4_
            have GE201 := n5_
            have NB182_201 := n6_
            have NB201_182 := n7_
            have NB183_201 := n8_
            have NB201_183 := n9_
            have NB202_201 := n10_
            have NB201_202 := n11_
            have GW202 := n12_
            have GE202 := n13_
            have NB182_202 := n14_
            have NB202_182 := n15_
            have NB183_202 := n16_
            have NB202_183 := n17_
            have HB := n18_
            clear n0_ n1_ n2_ n3_ n4_ n5_ n6_ n7_ n8_ n9_ n10_ n11_ n12_ n13_ n14_ n15_ n16_ n17_ n18_
            have hHeld : w74.cell? ⟨gb182, 0, none⟩ = some (.int .i64 a0_0) ∧ w74.cell? ⟨gb182, 1, none⟩ = some (.int .i64 a0_1) ∧ w74.cell? ⟨gb182, 2, none⟩ = some (.int .i64 a0_2) ∧ w74.cell? ⟨gb182, 3, none⟩ = some (.int .i64 a0_3) ∧ w74.cell? ⟨gb183, 0, none⟩ = some (.int .i64 a1_0) ∧ w74.cell? ⟨gb183, 1, none⟩ = some (.int .i64 a1_1) ∧ w74.cell? ⟨gb183, 2, none⟩ = some (.int .i64 a1_2) ∧ w74.cell? ⟨gb183, 3, none⟩ = some (.int .i64 a1_3) := hS_
            refine norm_ (a' := ?_) ?_ ?_
            rotate_left
            ·simp only [putAll, Act.put, List.setIfInBounds_toArray, List.set_cons_zero, List.set_cons_succ]
             rfl
            refine one_ (i := 3) (N := some 17) #[true, true, true, true, true, false, false, false, false, false, true, true, false, false, false] rfl rfl (one_of HT_.out (by kernel_rfl)) (by decide) (fun K hK => ?_)
            refine goes_ Try.func21 (by kernel_rfl) rfl #[.agg #[.int .i64 a1_0, .int .i64 a1_1, .int .i64 a1_2, .int .i64 a1_3]] (by rfl) rfl rfl (by (try simp only [List.map_toArray, List.map_cons, List.map_nil]); first | done | rfl | (simp only [List.length_drop, List.length_take]; rfl)) ?_
            with_reducible refine (laws_toBody.calls a1_0 a1_1 a1_2 a1_3 t188 t189 t190 t191 _ A5.out).mono ?_
            rintro e w75 ⟨rfl, hb⟩
            refine ⟨_, rfl, ?_⟩
            replace BK182 := z_bk BK182 hb; replace BK183 := z_bk BK183 hb; replace BK201 := z_bk BK201 hb; replace BK202 := z_bk BK202 hb; replace HB := z_bs HB hb
            (try clear hb); (try clear hk)
            refine hK.out _ _ ⟨z_c BK182 0, z_c BK182 1, z_c BK182 2, z_c BK182 3, z_c BK183 0, z_c BK183 1, z_c BK183 2, z_c BK183 3⟩ (fun hHeld => ?_)
            clear hK K
            refine norm_ (a' := ?_) ?_ ?_
            rotate_left
            ·show Act.put _ (some 17) _ = _
             simp only [Act.put, sp1, sp2, sp3, i64_w, i32_w]
             rfl
            exact z_n (hJ1_3_10_11 (gb201, gb202) _ ⟨hHeld, bkw, bkw, bkw, bkw, GW201.out, GE201.out, NB182_201.out, NB201_182.out, NB183_201.out, NB201_183.out, NB202_201.out, NB201_202.out, GW202.out, GE202.out, NB182_202.out, NB202_182.out, NB183_202.out, NB202_183.out, blw⟩)
          ·skip
           rintro gb202 w74 ⟨hS_, h0_, h1_, h2_, h3_, h4_, h5_, h6_, h7_, h8_, h9_⟩
           have n0_ : Aside0 (w74.heap[gb182]? = some (.cells #[.int .i64 a0_0, .int .i64 a0_1, .int .i64 a0_2, .int .i64 a0_3] 30 (0, 0))) := ⟨h0_⟩
           have n1_ : Aside0 (w74.heap[gb183]? = some (.cells #[.int .i64 a1_0, .int .i64 a1_1, .int .i64 a1_2, .int .i64 a1_3] 30 (0, 0))) := ⟨h1_⟩
           have n2_ : Aside0 (w74.heap[gb202]? = some (.cells #[.int .i64 0, .int .i64 0, .int .i64 0, .int .i64 0] 31 (0, 0))) := ⟨h2_⟩
           have n3_ : Aside0 (w.heap.size ≤ gb202) := ⟨h3_⟩
           have n4_ : Aside0 (w.heap.size ≤ gb202) := ⟨h4_⟩
           have n5_ : Aside0 (gb182 ≠ gb202) := ⟨h5_⟩
           have n6_ : Aside0 (gb202 ≠ gb182) := ⟨h6_⟩
           have n7_ : Aside0 (gb183 ≠ gb202) := ⟨h7_⟩
           have n8_ : Aside0 (gb202 ≠ gb183) := ⟨h8_⟩
           have n9_ : Aside0 (Below w.heap.size w w74) := ⟨h9_⟩
           clear BK182
           clear BK183
           clear HB
           clear h0_ h1_ h2_ h3_ h4_ h5_ h6_ h7_ h8_ h9_
           have BK182 := n0_
           have BK183 := n1_
           have BK202 := n2_
           have GW202 := n3_
           have GE202 := n4_
           have NB182_202 := n5_
           have NB202_182 := n6_
           have NB183_202 := n7_
           have NB202_183 := n8_
           have HB := n9_
           clear n0_ n1_ n2_ n3_ n4_ n5_ n6_ n7_ n8_ n9_
           have hHeld : w74.cell? ⟨gb182, 0, none⟩ = some (.int .i64 a0_0) ∧ w74.cell? ⟨gb182, 1, none⟩ = some (.int .i64 a0_1) ∧ w74.cell? ⟨gb182, 2, none⟩ = some (.int .i64 a0_2) ∧ w74.cell? ⟨gb182, 3, none⟩ = some (.int .i64 a0_3) ∧ w74.cell? ⟨gb183, 0, none⟩ = some (.int .i64 a1_0) ∧ w74.cell? ⟨gb183, 1, none⟩ = some (.int .i64 a1_1) ∧ w74.cell? ⟨gb183, 2, none⟩ = some (.int .i64 a1_2) ∧ w74.cell? ⟨gb183, 3, none⟩ = some (.int .i64 a1_3) := hS_
           refine norm_ (a' := ?_) ?_ ?_
           rotate_left
           ·simp only [putAll, Act.put, List.setIfInBounds_toArray, List.set_cons_zero, List.set_cons_succ]
            rfl
           refine two_ (i := 5) (j := 10) (Ni := some 19) (Nj := some 7) #[true, true, true, true, true, true, false, false, false, false, false, true, false, false, false] #[true, true, true, true, true, false, false, false, false, false, true, true, false, false, false] rfl rfl rfl rfl (two_of HT_.out (by kernel_rfl)) (by decide) (by decide) (fun K hK => ?_) (fun K hK => ?_)
           ·skip
            refine goes_ Try.func20 (by kernel_rfl) rfl #[.agg #[.int .i64 t184, .int .i64 t185, .int .i64 t186, .int .i64 t187], .agg #[.int .i64 t188, .int .i64 t189, .int .i64 t190, .int .i64 t191], .int .i64 a2] (by rfl) rfl rfl (by (try simp only [List.map_toArray, List.map_cons, List.map_nil]); first | done | rfl | (simp only [List.length_drop, List.length_take]; rfl)) ?_
            with_reducible refine (spec_PushPair.calls k t184 t185 t186 t187 t188 t189 t190 t191 a2 t192 t193 t194 t195 t196 t197 t198 t199 t200 _ A6.out).mono ?_
            rintro e w75 ⟨rfl, hb⟩
            refine ⟨_, rfl, ?_⟩
            replace BK182 := z_bk BK182 hb; replace BK183 := z_bk BK183 hb; replace BK202 := z_bk BK202 hb; replace HB := z_bs HB hb
            (try clear hb); (try clear hk)
            refine hK.out _ _ ⟨z_c BK182 0, z_c BK182 1, z_c BK182 2, z_c BK182 3, z_c BK183 0, z_c BK183 1, z_c BK183 2, z_c BK183 3⟩ (fun hHeld => ?_)
            clear hK K
            refine norm_ (a' := ?_) ?_ ?_
            rotate_left
            ·show Act.put _ (some 19) _ = _
             simp only [Act.put, sp1, sp2, sp3, i64_w, i32_w]
             rfl
            refine pure_ (i := 6) (N := some 13) (v := ?_) (a' := ?_) #[true, true, true, true, true, true, true, false, false, false, false, true, false, false, false] rfl rfl (any_of HT_.out (by kernel_rfl)) (fun _ _ _ h => h) (Or.inl ⟨by rfl, ?_⟩) ?_ ?_
            rotate_left
            ·intro w'
             go_simp
             with_reducible rfl
            rotate_left
            ·simp only [Act.put, sp1, sp2, sp3, i64_w, i32_w]
             rfl
            refine pure_ (i := 7) (N := some 20) (v := ?_) (a' := ?_) #[true, true, true, true, true, true, true, true, false, false, false, true, false, false, false] rfl rfl (any_of HT_.out (by kernel_rfl)) (fun _ _ _ h => h) (Or.inl ⟨by rfl, ?_⟩) ?_ ?_
            rotate_left
            ·intro w'
             go_simp
             with_reducible rfl
            rotate_left
            ·simp only [Act.put, sp1, sp2, sp3, i64_w, i32_w]
             rfl
            refine pure_ (i := 8) (N := some 21) (v := ?_) (a' := ?_) #[true, true, true, true, true, true, true, true, true, false, false, true, false, false, false] rfl rfl (any_of HT_.out (by kernel_rfl)) (fun _ _ _ h => h) (Or.inl ⟨by rfl, ?_⟩) ?_ ?_
            rotate_left
            ·intro w'
             go_simp
             with_reducible rfl
            rotate_left
            ·simp only [Act.put, sp1, sp2, sp3, i64_w, i32_w]
             rfl
            refine pure_ (i := 9) (N := some 22) (v := ?_) (a' := ?_) #[true, true, true, true, true, true, true, true, true, true, false, true, false, false, false] rfl rfl (any_of HT_.out (by kernel_rfl)) (fun _ _ _ h => h) (Or.inl ⟨by rfl, ?_⟩) ?_ ?_
            rotate_left
            ·intro w'
             go_simp
             with_reducible rfl
            rotate_left
            ·simp only [Act.put, sp1, sp2, sp3, i64_w, i32_w]
             rfl
            exact z_n (hJ1_3_5_11 (gb202) _ ⟨hHeld, bkw, bkw, bkw, GW202.out, GE202.out, NB182_202.out, NB202_182.out, NB183_202.out, NB202_183.out, blw⟩)
           ·skip
            refine box_step ?hg (N := 7) ?hd (cs := #[.int .i64 0, .int .i64 0, .int .i64 0, .int .i64 0]) (t := 31) ?hr ?_; (case hd => rfl); (case hg => rfl); (case hr => first | (go_simp; done) | (go_simp; rfl))
            intro gb201 hg w75 hbox hb
            have BK201 := Aside0.mk (hbox); have GW201 := z_gw HB hg; have GE201 := z_gw HB hg; have NB182_201 := z_nl BK182 hg; have NB201_182 := z_ng BK182 hg; have NB183_201 := z_nl BK183 hg; have NB201_183 := z_ng BK183 hg; have NB202_201 := z_nl BK202 hg; have NB201_202 := z_ng BK202 hg; replace BK182 := z_bk BK182 hb; replace BK183 := z_bk BK183 hb; replace BK202 := z_bk BK202 hb; replace HB := z_bs HB hb
            clear hb hbox hg
            refine hK.out _ _ ⟨z_c BK182 0, z_c BK182 1, z_c BK182 2, z_c BK182 3, z_c BK183 0, z_c BK183 1, z_c BK183 2, z_c BK183 3⟩ (fun hHeld => ?_)
            clear hK K
            refine norm_ (a' := ?_) ?_ ?_
            rotate_left
            ·show Act.put _ (some 7) _ = _
             simp only [Act.put, sp1, sp2, sp3, i64_w, i32_w]
             rfl
            exact z_n (hJ1_3_10_11 (gb201, gb202) _ ⟨hHeld, bkw, bkw, bkw, bkw, GW201.out, GE201.out, NB182_201.out, NB201_182.out, NB183_201.out, NB201_183.out, NB202_201.out, NB201_202.out, GW202.out, GE202.out, NB182_202.out, NB202_182.out, NB183_202.out, NB202_183.out, blw⟩)
         ·skip
          rintro gb201 w74 ⟨hS_, h0_, h1_, h2_, h3_, h4_, h5_, h6_, h7_, h8_, h9_⟩
          have n0_ : Aside0 (w74.heap[gb182]? = some (.cells #[.int .i64 a0_0, .int .i64 a0_1, .int .i64 a0_2, .int .i64 a0_3] 30 (0, 0))) := ⟨h0_⟩
          have n1_ : Aside0 (w74.heap[gb183]? = some (.cells #[.int .i64 a1_0, .int .i64 a1_1, .int .i64 a1_2, .int .i64 a1_3] 30 (0, 0))) := ⟨h1_⟩
          have n2_ : Aside0 (w74.heap[gb201]? = some (.cells #[.int .i64 0, .int .i64 0, .int .i64 0, .int .i64 0] 31 (0, 0))) := ⟨h2_⟩
          have n3_ : Aside0 (w.heap.size ≤ gb201) := ⟨h3_⟩
          have n4_ : Aside0 (w.heap.size ≤ gb201) := ⟨h4_⟩
          have n5_ : Aside0 (gb182 ≠ gb201) := ⟨h5_⟩
          have n6_ : Aside0 (gb201 ≠ gb182) := ⟨h6_⟩
          have n7_ : Aside0 (gb183 ≠ gb201) := ⟨h7_⟩
          have n8_ : Aside0 (gb201 ≠ gb183) := ⟨h8_⟩
          have n9_ : Aside0 (Below w.heap.size w w74) := ⟨h9_⟩
          clear BK182
          clear BK183
          clear HB
          clear h0_ h1_ h2_ h3_ h4_ h5_ h6_ h7_ h8_ h9_
          have BK182 := n0_
          have BK183 := n1_
          have BK201 := n2_
          have GW201 := n3_
          have GE201 := n4_
          have NB182_201 := n5_
          have NB201_182 := n6_
          have NB183_201 := n7_
          have NB201_183 := n8_
          have HB := n9_
          clear n0_ n1_ n2_ n3_ n4_ n5_ n6_ n7_ n8_ n9_
          have hHeld : w74.cell? ⟨gb182, 0, none⟩ = some (.int .i64 a0_0) ∧ w74.cell? ⟨gb182, 1, none⟩ = some (.int .i64 a0_1) ∧ w74.cell? ⟨gb182, 2, none⟩ = some (.int .i64 a0_2) ∧ w74.cell? ⟨gb182, 3, none⟩ = some (.int .i64 a0_3) ∧ w74.cell? ⟨gb183, 0, none⟩ = some (.int .i64 a1_0) ∧ w74.cell? ⟨gb183, 1, none⟩ = some (.int .i64 a1_1) ∧ w74.cell? ⟨gb183, 2, none⟩ = some (.int .i64 a1_2) ∧ w74.cell? ⟨gb183, 3, none⟩ = some (.int .i64 a1_3) := hS_
          refine norm_ (a' := ?_) ?_ ?_
          rotate_left
          ·simp only [putAll, Act.put, List.setIfInBounds_toArray, List.set_cons_zero, List.set_cons_succ]
           rfl
          refine two_ (i := 5) (j := 11) (Ni := some 19) (Nj := some 8) #[true, true, true, true, true, true, false, false, false, false, true, false, false, false, false] #[true, true, true, true, true, false, false, false, false, false, true, true, false, false, false] rfl rfl rfl rfl (two_of HT_.out (by kernel_rfl)) (by decide) (by decide) (fun K hK => ?_) (fun K hK => ?_)
          ·skip
           refine goes_ Try.func20 (by kernel_rfl) rfl #[.agg #[.int .i64 t184, .int .i64 t185, .int .i64 t186, .int .i64 t187], .agg #[.int .i64 t188, .int .i64 t189, .int .i64 t190, .int .i64 t191], .int .i64 a2] (by rfl) rfl rfl (by (try simp only [List.map_toArray, List.map_cons, List.map_nil]); first | done | rfl | (simp only [List.length_drop, List.length_take]; rfl)) ?_
           with_reducible refine (spec_PushPair.calls k t184 t185 t186 t187 t188 t189 t190 t191 a2 t192 t193 t194 t195 t196 t197 t198 t199 t200 _ A6.out).mono ?_
           rintro e w75 ⟨rfl, hb⟩
           refine ⟨_, rfl, ?_⟩
           replace BK182 := z_bk BK182 hb; replace BK183 := z_bk BK183 hb; replace BK201 := z_bk BK201 hb; replace HB := z_bs HB hb
           (try clear hb); (try clear hk)
           refine hK.out _ _ ⟨z_c BK182 0, z_c BK182 1, z_c BK182 2, z_c BK182 3, z_c BK183 0, z_c BK183 1, z_c BK183 2, z_c BK183 3⟩ (fun hHeld => ?_)
           clear hK K
           refine norm_ (a' := ?_) ?_ ?_
           rotate_left
           ·show Act.put _ (some 19) _ = _
            simp only [Act.put, sp1, sp2, sp3, i64_w, i32_w]
            rfl
           refine pure_ (i := 6) (N := some 13) (v := ?_) (a' := ?_) #[true, true, true, true, true, true, true, false, false, false, true, false, false, false, false] rfl rfl (any_of HT_.out (by kernel_rfl)) (fun _ _ _ h => h) (Or.inl ⟨by rfl, ?_⟩) ?_ ?_
           rotate_left
           ·intro w'
            go_simp
            with_reducible rfl
           rotate_left
           ·simp only [Act.put, sp1, sp2, sp3, i64_w, i32_w]
            rfl
           refine pure_ (i := 7) (N := some 20) (v := ?_) (a' := ?_) #[true, true, true, true, true, true, true, true, false, false, true, false, false, false, false] rfl rfl (any_of HT_.out (by kernel_rfl)) (fun _ _ _ h => h) (Or.inl ⟨by rfl, ?_⟩) ?_ ?_
           rotate_left
           ·intro w'
            go_simp
            with_reducible rfl
           rotate_left
           ·simp only [Act.put, sp1, sp2, sp3, i64_w, i32_w]
            rfl
           refine pure_ (i := 8) (N := some 21) (v := ?_) (a' := ?_) #[true, true, true, true, true, true, true, true, true, false, true, false, false, false, false] rfl rfl (any_of HT_.out (by kernel_rfl)) (fun _ _ _ h => h) (Or.inl ⟨by rfl, ?_⟩) ?_ ?_
           rotate_left
           ·intro w'
            go_simp
            with_reducible rfl
           rotate_left
           ·simp only [Act.put, sp1, sp2, sp3, i64_w, i32_w]
            rfl
           refine pure_ (i := 9) (N := some 22) (v := ?_) (a' := ?_) #[true, true, true, true, true, true, true, true, true, true, true, false, false, false, false] rfl rfl (any_of HT_.out (by kernel_rfl)) (fun _ _ _ h => h) (Or.inl ⟨by rfl, ?_⟩) ?_ ?_
           rotate_left
           ·intro w'
            go_simp
            with_reducible rfl
           rotate_left
           ·simp only [Act.put, sp1, sp2, sp3, i64_w, i32_w]
            rfl
           exact z_n (hJ1_3_5_10 (gb201) _ ⟨hHeld, bkw, bkw, bkw, GW201.out, GE201.out, NB182_201.out, NB201_182.out, NB183_201.out, NB201_183.out, blw⟩)
          ·skip
           refine box_step ?hg (N := 8) ?hd (cs := #[.int .i64 0, .int .i64 0, .int .i64 0, .int .i64 0]) (t := 31) ?hr ?_; (case hd => rfl); (case hg => rfl); (case hr => first | (go_simp; done) | (go_simp; rfl))
           intro gb202 hg w75 hbox hb
           have BK202 := Aside0.mk (hbox); have GW202 := z_gw HB hg; have GE202 := z_gw HB hg; have NB182_202 := z_nl BK182 hg; have NB202_182 := z_ng BK182 hg; have NB183_202 := z_nl BK183 hg; have NB202_183 := z_ng BK183 hg; have NB201_202 := z_nl BK201 hg; have NB202_201 := z_ng BK201 hg; replace BK182 := z_bk BK182 hb; replace BK183 := z_bk BK183 hb; replace BK201 := z_bk BK201 hb; replace HB := z_bs HB hb
           clear hb hbox hg
           refine hK.out _ _ ⟨z_c BK182 0, z_c BK182 1, z_c BK182 2, z_c BK182 3, z_c BK183 0, z_c BK183 1, z_c BK183 2, z_c BK183 3⟩ (fun hHeld => ?_)
           clear hK K
           refine norm_ (a' := ?_) ?_ ?_
           rotate_left
           ·show Act.put _ (some 8) _ = _
            simp only [Act.put, sp1, sp2, sp3, i64_w, i32_w]
            rfl
           exact z_n (hJ1_3_10_11 (gb201, gb202) _ ⟨hHeld, bkw, bkw, bkw, bkw, GW201.out, GE201.out, NB182_201.out, NB201_182.out, NB183_201.out, NB201_183.out, NB202_201.out, NB201_202.out, GW202.out, GE202.out, NB182_202.out, NB202_182.out, NB183_202.out, NB202_183.out, blw⟩)
        ·skip
         rintro _ w74 ⟨hS_, h0_, h1_, h2_⟩
         have n0_ : Aside0 (w74.heap[gb182]? = some (.cells #[.int .i64 a0_0, .int .i64 a0_1, .int .i64 a0_2, .int .i64 a0_3] 30 (0, 0))) := ⟨h0_⟩
         have n1_ : Aside0 (w74.heap[gb183]? = some (.cells #[.int .i64 a1_0, .int .i64 a1_1, .int .i64 a1_2, .int .i64 a1_3] 30 (0, 0))) := ⟨h1_⟩
         have n2_ : Aside0 (Below w.heap.size w w74) := ⟨h2_⟩
         clear BK182
         clear BK183
         clear HB
         clear h0_ h1_ h2_
         have BK182 := n0_
         have BK183 := n1_
         have HB := n2_
         clear n0_ n1_ n2_
         have hHeld : w74.cell? ⟨gb182, 0, none⟩ = some (.int .i64 a0_0) ∧ w74.cell? ⟨gb182, 1, none⟩ = some (.int .i64 a0_1) ∧ w74.cell? ⟨gb182, 2, none⟩ = some (.int .i64 a0_2) ∧ w74.cell? ⟨gb182, 3, none⟩ = some (.int .i64 a0_3) ∧ w74.cell? ⟨gb183, 0, none⟩ = some (.int .i64 a1_0) ∧ w74.cell? ⟨gb183, 1, none⟩ = some (.int .i64 a1_1) ∧ w74.cell? ⟨gb183, 2, none⟩ = some (.int .i64 a1_2) ∧ w74.cell? ⟨gb183, 3, none⟩ = some (.int .i64 a1_3) := hS_
         refine norm_ (a' := ?_) ?_ ?_
         rotate_left
         ·simp only [putAll, Act.put, List.setIfInBounds_toArray, List.set_cons_zero, List.set_cons_succ]
          rfl
         refine two_ (i := 10) (j := 11) (Ni := some 7) (Nj := some 8) #[true, true, true, true, true, true, true, true, true, true, true, false, false, false, false] #[true, true, true, true, true, true, true, true, true, true, false, true, false, false, false] rfl rfl rfl rfl (two_of HT_.out (by kernel_rfl)) (by decide) (by decide) (fun K hK => ?_) (fun K hK => ?_)
         ·skip
          refine box_step ?hg (N := 7) ?hd (cs := #[.int .i64 0, .int .i64 0, .int .i64 0, .int .i64 0]) (t := 31) ?hr ?_; (case hd => rfl); (case hg => rfl); (case hr => first | (go_simp; done) | (go_simp; rfl))
          intro gb201 hg w75 hbox hb
          have BK201 := Aside0.mk (hbox); have GW201 := z_gw HB hg; have GE201 := z_gw HB hg; have NB182_201 := z_nl BK182 hg; have NB201_182 := z_ng BK182 hg; have NB183_201 := z_nl BK183 hg; have NB201_183 := z_ng BK183 hg; replace BK182 := z_bk BK182 hb; replace BK183 := z_bk BK183 hb; replace HB := z_bs HB hb
          clear hb hbox hg
          refine hK.out _ _ ⟨z_c BK182 0, z_c BK182 1, z_c BK182 2, z_c BK182 3, z_c BK183 0, z_c BK183 1, z_c BK183 2, z_c BK183 3⟩ (fun hHeld => ?_)
          clear hK K
          refine norm_ (a' := ?_) ?_ ?_
          rotate_left
          ·show Act.put _ (some 7) _ = _
           simp only [Act.put, sp1, sp2, sp3, i64_w, i32_w]
           rfl
          exact z_n (hJ1_3_5_10 (gb201) _ ⟨hHeld, bkw, bkw, bkw, GW201.out, GE201.out, NB182_201.out, NB201_182.out, NB183_201.out, NB201_183.out, blw⟩)
         ·skip
          refine box_step ?hg (N := 8) ?hd (cs := #[.int .i64 0, .int .i64 0, .int .i64 0, .int .i64 0]) (t := 31) ?hr ?_; (case hd => rfl); (case hg => rfl); (case hr => first | (go_simp; done) | (go_simp; rfl))
          intro gb202 hg w75 hbox hb
          have BK202 := Aside0.mk (hbox); have GW202 := z_gw HB hg; have GE202 := z_gw HB hg; have NB182_202 := z_nl BK182 hg; have NB202_182 := z_ng BK182 hg; have NB183_202 := z_nl BK183 hg; have NB202_183 := z_ng BK183 hg; replace BK182 := z_bk BK182 hb; replace BK183 := z_bk BK183 hb; replace HB := z_bs HB hb
          clear hb hbox hg
          refine hK.out _ _ ⟨z_c BK182 0, z_c BK182 1, z_c BK182 2, z_c BK182 3, z_c BK183 0, z_c BK183 1, z_c BK183 2, z_c BK183 3⟩ (fun hHeld => ?_)
          clear hK K
          refine norm_ (a' := ?_) ?_ ?_
          rotate_left
          ·show Act.put _ (some 8) _ = _
           simp only [Act.put, sp1, sp2, sp3, i64_w, i32_w]
           rfl
          exact z_n (hJ1_3_5_11 (gb202) _ ⟨hHeld, bkw, bkw, bkw, GW202.out, GE202.out, NB182_202.out, NB202_182.out, NB183_202.out, NB202_183.out, blw⟩)
       ·skip
        rintro ⟨gb201, gb202⟩ w75 ⟨hS_, h0_, h1_, h2_, h3_, h4_, h5_, h6_, h7_, h8_, h9_, h10_, h11_, h12_, h13_, h14_, h15_, h16_, h17_, h18_⟩
        have n0_ : Aside0 (w75.heap[gb182]? = some (.cells #[.int .i64 a0_0, .int .i64 a0_1, .int .i64 a0_2, .int .i64 a0_3] 30 (0, 0))) := ⟨h0_⟩
        have n1_ : Aside0 (w75.heap[gb183]? = some (.cells #[.int .i64 a1_0, .int .i64 a1_1, .int .i64 a1_2, .int .i64 a1_3] 30 (0, 0))) := ⟨h1_⟩
        have n2_ : Aside0 (w75.heap[gb201]? = some (.cells #[.int .i64 0, .int .i64 0, .int .i64 0, .int .i64 0] 31 (0, 0))) := ⟨h2_⟩
        have n3_ : Aside0 (w75.heap[gb202]? = some (.cells #[.int .i64 0, .int .i64 0, .int .i64 0, .int .i64 0] 31 (0, 0))) := ⟨h3_⟩
        have n4_ : Aside0 (w.heap.size ≤ gb201) := ⟨h4_⟩
        have n5_ : Aside0 (w.heap.size ≤ gb201) := ⟨h5_⟩
        have n6_ : Aside0 (gb182 ≠ gb201) := ⟨h6_⟩
        have n7_ : Aside0 (gb201 ≠ gb182) := ⟨h7_⟩
        have n8_ : Aside0 (gb183 ≠ gb201) := ⟨h8_⟩
        have n9_ : Aside0 (gb201 ≠ gb183) := ⟨h9_⟩
        have n10_ : Aside0 (gb202 ≠ gb201) := ⟨h10_⟩
        have n11_ : Aside0 (gb201 ≠ gb202) := ⟨h11_⟩
        have n12_ : Aside0 (w.heap.size ≤ gb202) := ⟨h12_⟩
        have n13_ : Aside0 (w.heap.size ≤ gb202) := ⟨h13_⟩
        have n14_ : Aside0 (gb182 ≠ gb202) := ⟨h14_⟩
        have n15_ : Aside0 (gb202 ≠ gb182) := ⟨h15_⟩
        have n16_ : Aside0 (gb183 ≠ gb202) := ⟨h16_⟩
        have n17_ : Aside0 (gb202 ≠ gb183) := ⟨h17_⟩
        have n18_ : Aside0 (Below w.heap.size w w75) := ⟨h18_⟩
        clear BK182
        clear BK183
        clear HB
        clear h0_ h1_ h2_ h3_ h4_ h5_ h6_ h7_ h8_ h9_ h10_ h11_ h12_ h13_ h14_ h15_ h16_ h17_ h18_
        have BK182 := n0_
        have BK183 := n1_
        have BK201 := n2_
        have BK202 := n3_
        have GW201 := n4_
        have GE201 := n5_
        have NB182_201 := n6_
        have NB201_182 := n7_
        have NB183_201 := n8_
        have NB201_183 := n9_
        have NB202_201 := n10_
        have NB201_202 := n11_
        have GW202 := n12_
        have GE202 := n13_
        have NB182_202 := n14_
        have NB202_182 := n15_
        have NB183_202 := n16_
        have NB202_183 := n17_
        have HB := n18_
        clear n0_ n1_ n2_ n3_ n4_ n5_ n6_ n7_ n8_ n9_ n10_ n11_ n12_ n13_ n14_ n15_ n16_ n17_ n18_
        have hHeld : w75.cell? ⟨gb182, 0, none⟩ = some (.int .i64 a0_0) ∧ w75.cell? ⟨gb182, 1, none⟩ = some (.int .i64 a0_1) ∧ w75.cell? ⟨gb182, 2, none⟩ = some (.int .i64 a0_2) ∧ w75.cell? ⟨gb182, 3, none⟩ = some (.int .i64 a0_3) ∧ w75.cell? ⟨gb183, 0, none⟩ = some (.int .i64 a1_0) ∧ w75.cell? ⟨gb183, 1, none⟩ = some (.int .i64 a1_1) ∧ w75.cell? ⟨gb183, 2, none⟩ = some (.int .i64 a1_2) ∧ w75.cell? ⟨gb183, 3, none⟩ = some (.int .i64 a1_3) := hS_
        refine norm_ (a' := ?_) ?_ ?_
        rotate_left
        ·simp only [putAll, Act.put, List.setIfInBounds_toArray, List.set_cons_zero, List.set_cons_succ]
         rfl
        refine one_ (i := 5) (N := some 19) #[true, true, true, true, true, true, false, false, false, false, true, true, false, false, false] rfl rfl (one_of HT_.out (by kernel_rfl)) (by decide) (fun K hK => ?_)
        refine goes_ Try.func20 (by kernel_rfl) rfl #[.agg #[.int .i64 t184, .int .i64 t185, .int .i64 t186, .int .i64 t187], .agg #[.int .i64 t188, .int .i64 t189, .int .i64 t190, .int .i64 t191], .int .i64 a2] (by rfl) rfl rfl (by (try simp only [List.map_toArray, List.map_cons, List.map_nil]); first | done | rfl | (simp only [List.length_drop, List.length_take]; rfl)) ?_
        with_reducible refine (spec_PushPair.calls k t184 t185 t186 t187 t188 t189 t190 t191 a2 t192 t193 t194 t195 t196 t197 t198 t199 t200 _ A6.out).mono ?_
        rintro e w76 ⟨rfl, hb⟩
        refine ⟨_, rfl, ?_⟩
        replace BK182 := z_bk BK182 hb; replace BK183 := z_bk BK183 hb; replace BK201 := z_bk BK201 hb; replace BK202 := z_bk BK202 hb; replace HB := z_bs HB hb
        (try clear hb); (try clear hk)
        refine hK.out _ _ ⟨z_c BK182 0, z_c BK182 1, z_c BK182 2, z_c BK182 3, z_c BK183 0, z_c BK183 1, z_c BK183 2, z_c BK183 3⟩ (fun hHeld => ?_)
        clear hK K
        refine norm_ (a' := ?_) ?_ ?_
        rotate_left
        ·show Act.put _ (some 19) _ = _
         simp only [Act.put, sp1, sp2, sp3, i64_w, i32_w]
         rfl
        refine pure_ (i := 6) (N := some 13) (v := ?_) (a' := ?_) #[true, true, true, true, true, true, true, false, false, false, true, true, false, false, false] rfl rfl (any_of HT_.out (by kernel_rfl)) (fun _ _ _ h => h) (Or.inl ⟨by rfl, ?_⟩) ?_ ?_
        rotate_left
        ·intro w'
         go_simp
         with_reducible rfl
        rotate_left
        ·simp only [Act.put, sp1, sp2, sp3, i64_w, i32_w]
         rfl
        refine pure_ (i := 7) (N := some 20) (v := ?_) (a' := ?_) #[true, true, true, true, true, true, true, true, false, false, true, true, false, false, false] rfl rfl (any_of HT_.out (by kernel_rfl)) (fun _ _ _ h => h) (Or.inl ⟨by rfl, ?_⟩) ?_ ?_
        rotate_left
        ·intro w'
         go_simp
         with_reducible rfl
        rotate_left
        ·simp only [Act.put, sp1, sp2, sp3, i64_w, i32_w]
         rfl
        refine pure_ (i := 8) (N := some 21) (v := ?_) (a' := ?_) #[true, true, true, true, true, true, true, true, true, false, true, true, false, false, false] rfl rfl (any_of HT_.out (by kernel_rfl)) (fun _ _ _ h => h) (Or.inl ⟨by rfl, ?_⟩) ?_ ?_
        rotate_left
        ·intro w'
         go_simp
         with_reducible rfl
        rotate_left
        ·simp only [Act.put, sp1, sp2, sp3, i64_w, i32_w]
         rfl
        refine pure_ (i := 9) (N := some 22) (v := ?_) (a' := ?_) #[true, true, true, true, true, true, true, true, true, true, true, true, false, false, false] rfl rfl (any_of HT_.out (by kernel_rfl)) (fun _ _ _ h => h) (Or.inl ⟨by rfl, ?_⟩) ?_ ?_
        rotate_left
        ·intro w'
         go_simp
         with_reducible rfl
        rotate_left
        ·simp only [Act.put, sp1, sp2, sp3, i64_w, i32_w]
         rfl
        exact z_n (hJ1_3_5_10_11 (gb201, gb202) _ ⟨hHeld, bkw, bkw, bkw, bkw, GW201.out, GE201.out, NB182_201.out, NB201_182.out, NB183_201.out, NB201_183.out, NB202_201.out, NB201_202.out, GW202.out, GE202.out, NB182_202.out, NB202_182.out, NB183_202.out, NB202_183.out, blw⟩)
      ·skip
       rintro gb202 w75 ⟨hS_, h0_, h1_, h2_, h3_, h4_, h5_, h6_, h7_, h8_, h9_⟩
       have n0_ : Aside0 (w75.heap[gb182]? = some (.cells #[.int .i64 a0_0, .int .i64 a0_1, .int .i64 a0_2, .int .i64 a0_3] 30 (0, 0))) := ⟨h0_⟩
       have n1_ : Aside0 (w75.heap[gb183]? = some (.cells #[.int .i64 a1_0, .int .i64 a1_1, .int .i64 a1_2, .int .i64 a1_3] 30 (0, 0))) := ⟨h1_⟩
       have n2_ : Aside0 (w75.heap[gb202]? = some (.cells #[.int .i64 0, .int .i64 0, .int .i64 0, .int .i64 0] 31 (0, 0))) := ⟨h2_⟩
       have n3_ : Aside0 (w.heap.size ≤ gb202) := ⟨h3_⟩
       have n4_ : Aside0 (w.heap.size ≤ gb202) := ⟨h4_⟩
       have n5_ : Aside0 (gb182 ≠ gb202) := ⟨h5_⟩
       have n6_ : Aside0 (gb202 ≠ gb182) := ⟨h6_⟩
       have n7_ : Aside0 (gb183 ≠ gb202) := ⟨h7_⟩
       have n8_ : Aside0 (gb202 ≠ gb183) := ⟨h8_⟩
       have n9_ : Aside0 (Below w.heap.size w w75) := ⟨h9_⟩
       clear BK182
       clear BK183
       clear HB
       clear h0_ h1_ h2_ h3_ h4_ h5_ h6_ h7_ h8_ h9_
       have BK182 := n0_
       have BK183 := n1_
       have BK202 := n2_
       have GW202 := n3_
       have GE202 := n4_
       have NB182_202 := n5_
       have NB202_182 := n6_
       have NB183_202 := n7_
       have NB202_183 := n8_
       have HB := n9_
       clear n0_ n1_ n2_ n3_ n4_ n5_ n6_ n7_ n8_ n9_
       have hHeld : w75.cell? ⟨gb182, 0, none⟩ = some (.int .i64 a0_0) ∧ w75.cell? ⟨gb182, 1, none⟩ = some (.int .i64 a0_1) ∧ w75.cell? ⟨gb182, 2, none⟩ = some (.int .i64 a0_2) ∧ w75.cell? ⟨gb182, 3, none⟩ = some (.int .i64 a0_3) ∧ w75.cell? ⟨gb183, 0, none⟩ = some (.int .i64 a1_0) ∧ w75.cell? ⟨gb183, 1, none⟩ = some (.int .i64 a1_1) ∧ w75.cell? ⟨gb183, 2, none⟩ = some (.int .i64 a1_2) ∧ w75.cell? ⟨gb183, 3, none⟩ = some (.int .i64 a1_3) := hS_
       refine norm_ (a' := ?_) ?_ ?_
       rotate_left
       ·simp only [putAll, Act.put, List.setIfInBounds_toArray, List.set_cons_zero, List.set_cons_succ]
        rfl
       refine one_ (i := 10) (N := some 7) #[true, true, true, true, true, true, true, true, true, true, true, true, false, false, false] rfl rfl (one_of HT_.out (by kernel_rfl)) (by decide) (fun K hK => ?_)
       refine box_step ?hg (N := 7) ?hd (cs := #[.int .i64 0, .int .i64 0, .int .i64 0, .int .i64 0]) (t := 31) ?hr ?_; (case hd => rfl); (case hg => rfl); (case hr => first | (go_simp; done) | (go_simp; rfl))
       intro gb201 hg w76 hbox hb
       have BK201 := Aside0.mk (hbox); have GW201 := z_gw HB hg; have GE201 := z_gw HB hg; have NB182_201 := z_nl BK182 hg; have NB201_182 := z_ng BK182 hg; have NB183_201 := z_nl BK183 hg; have NB201_183 := z_ng BK183 hg; have NB202_201 := z_nl BK202 hg; have NB201_202 := z_ng BK202 hg; replace BK182 := z_bk BK182 hb; replace BK183 := z_bk BK183 hb; replace BK202 := z_bk BK202 hb; replace HB := z_bs HB hb
       clear hb hbox hg
       refine hK.out _ _ ⟨z_c BK182 0, z_c BK182 1, z_c BK182 2, z_c BK182 3, z_c BK183 0, z_c BK183 1, z_c BK183 2, z_c BK183 3⟩ (fun hHeld => ?_)
       clear hK K
       refine norm_ (a' := ?_) ?_ ?_
       rotate_left
       ·show Act.put _ (some 7) _ = _
        simp only [Act.put, sp1, sp2, sp3, i64_w, i32_w]
        rfl
       exact z_n (hJ1_3_5_10_11 (gb201, gb202) _ ⟨hHeld, bkw, bkw, bkw, bkw, GW201.out, GE201.out, NB182_201.out, NB201_182.out, NB183_201.out, NB201_183.out, NB202_201.out, NB201_202.out, GW202.out, GE202.out, NB182_202.out, NB202_182.out, NB183_202.out, NB202_183.out, blw⟩)
     ·skip
      rintro gb201 w75 ⟨hS_, h0_, h1_, h2_, h3_, h4_, h5_, h6_, h7_, h8_, h9_⟩
      have n0_ : Aside0 (w75.heap[gb182]? = some (.cells #[.int .i64 a0_0, .int .i64 a0_1, .int .i64 a0_2, .int .i64 a0_3] 30 (0, 0))) := ⟨h0_⟩
      have n1_ : Aside0 (w75.heap[gb183]? = some (.cells #[.int .i64 a1_0, .int .i64 a1_1, .int .i64 a1_2, .int .i64 a1_3] 30 (0, 0))) := ⟨h1_⟩
      have n2_ : Aside0 (w75.heap[gb201]? = some (.cells #[.int .i64 0, .int .i64 0, .int .i64 0, .int .i64 0] 31 (0, 0))) := ⟨h2_⟩
      have n3_ : Aside0 (w.heap.size ≤ gb201) := ⟨h3_⟩
      have n4_ : Aside0 (w.heap.size ≤ gb201) := ⟨h4_⟩
      have n5_ : Aside0 (gb182 ≠ gb201) := ⟨h5_⟩
      have n6_ : Aside0 (gb201 ≠ gb182) := ⟨h6_⟩
      have n7_ : Aside0 (gb183 ≠ gb201) := ⟨h7_⟩
      have n8_ : Aside0 (gb201 ≠ gb183) := ⟨h8_⟩
      have n9_ : Aside0 (Below w.heap.size w w75) := ⟨h9_⟩
      clear BK182
      clear BK183
      clear HB
      clear h0_ h1_ h2_ h3_ h4_ h5_ h6_ h7_ h8_ h9_
      have BK182 := n0_
      have BK183 := n1_
      have BK201 := n2_
      have GW201 := n3_
      have GE201 := n4_
      have NB182_201 := n5_
      have NB201_182 := n6_
      have NB183_201 := n7_
      have NB201_183 := n8_
      have HB := n9_
      clear n0_ n1_ n2_ n3_ n4_ n5_ n6_ n7_ n8_ n9_
      have hHeld : w75.cell? ⟨gb182, 0, none⟩ = some (.int .i64 a0_0) ∧ w75.cell? ⟨gb182, 1, none⟩ = some (.int .i64 a0_1) ∧ w75.cell? ⟨gb182, 2, none⟩ = some (.int .i64 a0_2) ∧ w75.cell? ⟨gb182, 3, none⟩ = some (.int .i64 a0_3) ∧ w75.cell? ⟨gb183, 0, none⟩ = some (.int .i64 a1_0) ∧ w75.cell? ⟨gb183, 1, none⟩ = some (.int .i64 a1_1) ∧ w75.cell? ⟨gb183, 2, none⟩ = some (.int .i64 a1_2) ∧ w75.cell? ⟨gb183, 3, none⟩ = some (.int .i64 a1_3) := hS_
      refine norm_ (a' := ?_) ?_ ?_
      rotate_left
      ·simp only [putAll, Act.put, List.setIfInBounds_toArray, List.set_cons_zero, List.set_cons_succ]
       rfl
      refine one_ (i := 11) (N := some 8) #[true, true, true, true, true, true, true, true, true, true, true, true, false, false, false] rfl rfl (one_of HT_.out (by kernel_rfl)) (by decide) (fun K hK => ?_)
      refine box_step ?hg (N := 8) ?hd (cs := #[.int .i64 0, .int .i64 0, .int .i64 0, .int .i64 0]) (t := 31) ?hr ?_; (case hd => rfl); (case hg => rfl); (case hr => first | (go_simp; done) | (go_simp; rfl))
      intro gb202 hg w76 hbox hb
      have BK202 := Aside0.mk (hbox); have GW202 := z_gw HB hg; have GE202 := z_gw HB hg; have NB182_202 := z_nl BK182 hg; have NB202_182 := z_ng BK182 hg; have NB183_202 := z_nl BK183 hg; have NB202_183 := z_ng BK183 hg; have NB201_202 := z_nl BK201 hg; have NB202_201 := z_ng BK201 hg; replace BK182 := z_bk BK182 hb; replace BK183 := z_bk BK183 hb; replace BK201 := z_bk BK201 hb; replace HB := z_bs HB hb
      clear hb hbox hg
      refine hK.out _ _ ⟨z_c BK182 0, z_c BK182 1, z_c BK182 2, z_c BK182 3, z_c BK183 0, z_c BK183 1, z_c BK183 2, z_c BK183 3⟩ (fun hHeld => ?_)
      clear hK K
      refine norm_ (a' := ?_) ?_ ?_
      rotate_left
      ·show Act.put _ (some 8) _ = _
       simp only [Act.put, sp1, sp2, sp3, i64_w, i32_w]
       rfl
      exact z_n (hJ1_3_5_10_11 (gb201, gb202) _ ⟨hHeld, bkw, bkw, bkw, bkw, GW201.out, GE201.out, NB182_201.out, NB201_182.out, NB183_201.out, NB201_183.out, NB202_201.out, NB201_202.out, GW202.out, GE202.out, NB182_202.out, NB202_182.out, NB183_202.out, NB202_183.out, blw⟩)
    rintro ⟨gb201, gb202⟩ w76 ⟨hS_, h0_, h1_, h2_, h3_, h4_, h5_, h6_, h7_, h8_, h9_, h10_, h11_, h12_, h13_, h14_, h15_, h16_, h17_, h18_⟩
    have n0_ : Aside0 (w76.heap[gb182]? = some (.cells #[.int .i64 a0_0, .int .i64 a0_1, .int .i64 a0_2, .int .i64 a0_3] 30 (0, 0))) := ⟨h0_⟩
    have n1_ : Aside0 (w76.heap[gb183]? = some (.cells #[.int .i64 a1_0, .int .i64 a1_1, .int .i64 a1_2, .int .i64 a1_3] 30 (0, 0))) := ⟨h1_⟩
    have n2_ : Aside0 (w76.heap[gb201]? = some (.cells #[.int .i64 0, .int .i64 0, .int .i64 0, .int .i64 0] 31 (0, 0))) := ⟨h2_⟩
    have n3_ : Aside0 (w76.heap[gb202]? = some (.cells #[.int .i64 0, .int .i64 0, .int .i64 0, .int .i64 0] 31 (0, 0))) := ⟨h3_⟩
    have n4_ : Aside0 (w.heap.size ≤ gb201) := ⟨h4_⟩
    have n5_ : Aside0 (w.heap.size ≤ gb201) := ⟨h5_⟩
    have n6_ : Aside0 (gb182 ≠ gb201) := ⟨h6_⟩
    have n7_ : Aside0 (gb201 ≠ gb182) := ⟨h7_⟩
    have n8_ : Aside0 (gb183 ≠ gb201) := ⟨h8_⟩
    have n9_ : Aside0 (gb201 ≠ gb183) := ⟨h9_⟩
    have n10_ : Aside0 (gb202 ≠ gb201) := ⟨h10_⟩
    have n11_ : Aside0 (gb201 ≠ gb202) := ⟨h11_⟩
    have n12_ : Aside0 (w.heap.size ≤ gb202) := ⟨h12_⟩
    have n13_ : Aside0 (w.heap.size ≤ gb202) := ⟨h13_⟩
    have n14_ : Aside0 (gb182 ≠ gb202) := ⟨h14_⟩
    have n15_ : Aside0 (gb202 ≠ gb182) := ⟨h15_⟩
    have n16_ : Aside0 (gb183 ≠ gb202) := ⟨h16_⟩
    have n17_ : Aside0 (gb202 ≠ gb183) := ⟨h17_⟩
    have n18_ : Aside0 (Below w.heap.size w w76) := ⟨h18_⟩
    clear BK182
    clear BK183
    clear HB
    clear h0_ h1_ h2_ h3_ h4_ h5_ h6_ h7_ h8_ h9_ h10_ h11_ h12_ h13_ h14_ h15_ h16_ h17_ h18_
    have BK182 := n0_
    have BK183 := n1_
    have BK201 := n2_
    have BK202 := n3_
    have GW201 := n4_
    have GE201 := n5_
    have NB182_201 := n6_
    have NB201_182 := n7_
    have NB183_201 := n8_
    have NB201_183 := n9_
    have NB202_201 := n10_
    have NB201_202 := n11_
    have GW202 := n12_
    have GE202 := n13_
    have NB182_202 := n14_
    have NB202_182 := n15_
    have NB183_202 := n16_
    have NB202_183 := n17_
    have HB := n18_
    clear n0_ n1_ n2_ n3_ n4_ n5_ n6_ n7_ n8_ n9_ n10_ n11_ n12_ n13_ n14_ n15_ n16_ n17_ n18_
    have hHeld : w76.cell? ⟨gb182, 0, none⟩ = some (.int .i64 a0_0) ∧ w76.cell? ⟨gb182, 1, none⟩ = some (.int .i64 a0_1) ∧ w76.cell? ⟨gb182, 2, none⟩ = some (.int .i64 a0_2) ∧ w76.cell? ⟨gb182, 3, none⟩ = some (.int .i64 a0_3) ∧ w76.cell? ⟨gb183, 0, none⟩ = some (.int .i64 a1_0) ∧ w76.cell? ⟨gb183, 1, none⟩ = some (.int .i64 a1_1) ∧ w76.cell? ⟨gb183, 2, none⟩ = some (.int .i64 a1_2) ∧ w76.cell? ⟨gb183, 3, none⟩ = some (.int .i64 a1_3) := hS_
    refine norm_ (a' := ?_) ?_ ?_
    rotate_left
    ·simp only [putAll, Act.put, List.setIfInBounds_toArray, List.set_cons_zero, List.set_cons_succ]
     rfl
    refine one_ (i := 12) (N := none) #[true, true, true, true, true, true, true, true, true, true, true, true, true, false, false] rfl rfl (one_of HT_.out (by kernel_rfl)) (by decide) (fun K hK => ?_)
    have hs77 : w76.cell? ⟨gb201, 0, none⟩ = some (.int .i64 0) := z_c BK201 0
    have hfs77 := blk_frozen BK201.out 0
    have hns77_0 := NB182_201.out
    have hns77_1 := NB183_201.out
    have hns77_3 := NB202_201.out
    have hms77_0 := NB201_182.out
    have hms77_1 := NB201_183.out
    have hms77_3 := NB201_202.out
    have hs78 : w76.cell? ⟨gb201, 1, none⟩ = some (.int .i64 0) := z_c BK201 1
    have hfs78 := blk_frozen BK201.out 1
    have hns78_0 := NB182_201.out
    have hns78_1 := NB183_201.out
    have hns78_3 := NB202_201.out
    have hms78_0 := NB201_182.out
    have hms78_1 := NB201_183.out
    have hms78_3 := NB201_202.out
    have hs79 : w76.cell? ⟨gb201, 2, none⟩ = some (.int .i64 0) := z_c BK201 2
    have hfs79 := blk_frozen BK201.out 2
    have hns79_0 := NB182_201.out
    have hns79_1 := NB183_201.out
    have hns79_3 := NB202_201.out
    have hms79_0 := NB201_182.out
    have hms79_1 := NB201_183.out
    have hms79_3 := NB201_202.out
    have hs80 : w76.cell? ⟨gb201, 3, none⟩ = some (.int .i64 0) := z_c BK201 3
    have hfs80 := blk_frozen BK201.out 3
    have hns80_0 := NB182_201.out
    have hns80_1 := NB183_201.out
    have hns80_3 := NB202_201.out
    have hms80_0 := NB201_182.out
    have hms80_1 := NB201_183.out
    have hms80_3 := NB201_202.out
    refine skip_ (w1 := ?_) (by rfl) rfl ?_ ?_
    rotate_left
    ·go_simp
     rfl
    refine hK.out _ _ ⟨((cell_far (p := ⟨gb201, _, none⟩) NB182_201.out _).trans (((cell_far (p := ⟨gb201, _, none⟩) NB182_201.out _).trans (((cell_far (p := ⟨gb201, _, none⟩) NB182_201.out _).trans (((cell_far (p := ⟨gb201, _, none⟩) NB182_201.out _).trans (hHeld.1)))))))), ((cell_far (p := ⟨gb201, _, none⟩) NB182_201.out _).trans (((cell_far (p := ⟨gb201, _, none⟩) NB182_201.out _).trans (((cell_far (p := ⟨gb201, _, none⟩) NB182_201.out _).trans (((cell_far (p := ⟨gb201, _, none⟩) NB182_201.out _).trans (hHeld.2.1)))))))), ((cell_far (p := ⟨gb201, _, none⟩) NB182_201.out _).trans (((cell_far (p := ⟨gb201, _, none⟩) NB182_201.out _).trans (((cell_far (p := ⟨gb201, _, none⟩) NB182_201.out _).trans (((cell_far (p := ⟨gb201, _, none⟩) NB182_201.out _).trans (hHeld.2.2.1)))))))), ((cell_far (p := ⟨gb201, _, none⟩) NB182_201.out _).trans (((cell_far (p := ⟨gb201, _, none⟩) NB182_201.out _).trans (((cell_far (p := ⟨gb201, _, none⟩) NB182_201.out _).trans (((cell_far (p := ⟨gb201, _, none⟩) NB182_201.out _).trans (hHeld.2.2.2.1)))))))), ((cell_far (p := ⟨gb201, _, none⟩) NB183_201.out _).trans (((cell_far (p := ⟨gb201, _, none⟩) NB183_201.out _).trans (((cell_far (p := ⟨gb201, _, none⟩) NB183_201.out _).trans (((cell_far (p := ⟨gb201, _, none⟩) NB183_201.out _).trans (hHeld.2.2.2.2.1)))))))), ((cell_far (p := ⟨gb201, _, none⟩) NB183_201.out _).trans (((cell_far (p := ⟨gb201, _, none⟩) NB183_201.out _).trans (((cell_far (p := ⟨gb201, _, none⟩) NB183_201.out _).trans (((cell_far (p := ⟨gb201, _, none⟩) NB183_201.out _).trans (hHeld.2.2.2.2.2.1)))))))), ((cell_far (p := ⟨gb201, _, none⟩) NB183_201.out _).trans (((cell_far (p := ⟨gb201, _, none⟩) NB183_201.out _).trans (((cell_far (p := ⟨gb201, _, none⟩) NB183_201.out _).trans (((cell_far (p := ⟨gb201, _, none⟩) NB183_201.out _).trans (hHeld.2.2.2.2.2.2.1)))))))), ((cell_far (p := ⟨gb201, _, none⟩) NB183_201.out _).trans (((cell_far (p := ⟨gb201, _, none⟩) NB183_201.out _).trans (((cell_far (p := ⟨gb201, _, none⟩) NB183_201.out _).trans (((cell_far (p := ⟨gb201, _, none⟩) NB183_201.out _).trans (hHeld.2.2.2.2.2.2.2))))))))⟩ (fun hHeld => ?_)
    clear hK K
    refine one_ (i := 13) (N := none) #[true, true, true, true, true, true, true, true, true, true, true, true, true, true, false] rfl rfl (one_of HT_.out (by kernel_rfl)) (by decide) (fun K hK => ?_)
    have hs81 : w76.cell? ⟨gb202, 0, none⟩ = some (.int .i64 0) := z_c BK202 0
    have hfs81 := blk_frozen BK202.out 0
    have hns81_0 := NB182_202.out
    have hns81_1 := NB183_202.out
    have hns81_2 := NB201_202.out
    have hms81_0 := NB202_182.out
    have hms81_1 := NB202_183.out
    have hms81_2 := NB202_201.out
    have hs82 : w76.cell? ⟨gb202, 1, none⟩ = some (.int .i64 0) := z_c BK202 1
    have hfs82 := blk_frozen BK202.out 1
    have hns82_0 := NB182_202.out
    have hns82_1 := NB183_202.out
    have hns82_2 := NB201_202.out
    have hms82_0 := NB202_182.out
    have hms82_1 := NB202_183.out
    have hms82_2 := NB202_201.out
    have hs83 : w76.cell? ⟨gb202, 2, none⟩ = some (.int .i64 0) := z_c BK202 2
    have hfs83 := blk_frozen BK202.out 2
    have hns83_0 := NB182_202.out
    have hns83_1 := NB183_202.out
    have hns83_2 := NB201_202.out
    have hms83_0 := NB202_182.out
    have hms83_1 := NB202_183.out
    have hms83_2 := NB202_201.out
    have hs84 : w76.cell? ⟨gb202, 3, none⟩ = some (.int .i64 0) := z_c BK202 3
    have hfs84 := blk_frozen BK202.out 3
    have hns84_0 := NB182_202.out
    have hns84_1 := NB183_202.out
    have hns84_2 := NB201_202.out
    have hms84_0 := NB202_182.out
    have hms84_1 := NB202_183.out
    have hms84_2 := NB202_201.out
    refine skip_ (w1 := ?_) (by rfl) rfl ?_ ?_
    rotate_left
    ·go_simp
     rfl
    refine hK.out _ _ ⟨((cell_far (p := ⟨gb202, _, none⟩) NB182_202.out _).trans (((cell_far (p := ⟨gb202, _, none⟩) NB182_202.out _).trans (((cell_far (p := ⟨gb202, _, none⟩) NB182_202.out _).trans (((cell_far (p := ⟨gb202, _, none⟩) NB182_202.out _).trans (hHeld.1)))))))), ((cell_far (p := ⟨gb202, _, none⟩) NB182_202.out _).trans (((cell_far (p := ⟨gb202, _, none⟩) NB182_202.out _).trans (((cell_far (p := ⟨gb202, _, none⟩) NB182_202.out _).trans (((cell_far (p := ⟨gb202, _, none⟩) NB182_202.out _).trans (hHeld.2.1)))))))), ((cell_far (p := ⟨gb202, _, none⟩) NB182_202.out _).trans (((cell_far (p := ⟨gb202, _, none⟩) NB182_202.out _).trans (((cell_far (p := ⟨gb202, _, none⟩) NB182_202.out _).trans (((cell_far (p := ⟨gb202, _, none⟩) NB182_202.out _).trans (hHeld.2.2.1)))))))), ((cell_far (p := ⟨gb202, _, none⟩) NB182_202.out _).trans (((cell_far (p := ⟨gb202, _, none⟩) NB182_202.out _).trans (((cell_far (p := ⟨gb202, _, none⟩) NB182_202.out _).trans (((cell_far (p := ⟨gb202, _, none⟩) NB182_202.out _).trans (hHeld.2.2.2.1)))))))), ((cell_far (p := ⟨gb202, _, none⟩) NB183_202.out _).trans (((cell_far (p := ⟨gb202, _, none⟩) NB183_202.out _).trans (((cell_far (p := ⟨gb202, _, none⟩) NB183_202.out _).trans (((cell_far (p := ⟨gb202, _, none⟩) NB183_202.out _).trans (hHeld.2.2.2.2.1)))))))), ((cell_far (p := ⟨gb202, _, none⟩) NB183_202.out _).trans (((cell_far (p := ⟨gb202, _, none⟩) NB183_202.out _).trans (((cell_far (p := ⟨gb202, _, none⟩) NB183_202.out _).trans (((cell_far (p := ⟨gb202, _, none⟩) NB183_202.out _).trans (hHeld.2.2.2.2.2.1)))))))), ((cell_far (p := ⟨gb202, _, none⟩) NB183_202.out _).trans (((cell_far (p := ⟨gb202, _, none⟩) NB183_202.out _).trans (((cell_far (p := ⟨gb202, _, none⟩) NB183_202.out _).trans (((cell_far (p := ⟨gb202, _, none⟩) NB183_202.out _).trans (hHeld.2.2.2.2.2.2.1)))))))), ((cell_far (p := ⟨gb202, _, none⟩) NB183_202.out _).trans (((cell_far (p := ⟨gb202, _, none⟩) NB183_202.out _).trans (((cell_far (p := ⟨gb202, _, none⟩) NB183_202.out _).trans (((cell_far (p := ⟨gb202, _, none⟩) NB183_202.out _).trans (hHeld.2.2.2.2.2.2.2))))))))⟩ (fun hHeld => ?_)
    clear hK K
    refine pure_ (i := 14) (N := some 9) (v := ?_) (a' := ?_) #[true, true, true, true, true, true, true, true, true, true, true, true, true, true, true] rfl rfl (any_of HT_.out (by kernel_rfl)) (fun _ _ _ h => h) (Or.inl ⟨by rfl, ?_⟩) ?_ ?_
    rotate_left
    ·intro w'
     go_simp
     with_reducible rfl
    rotate_left
    ·simp only [Act.put, sp1, sp2, sp3, i64_w, i32_w]
     rfl
    refine done_ (done_of HT_.out (by kernel_rfl)) ?_
    try go_wp2
    have n0_ : Aside0 (((((((((w76.setCell ⟨gb201, 0, none⟩ (.int .i64 t192)).setCell ⟨gb201, 1, none⟩ (.int .i64 t193)).setCell ⟨gb201, 2, none⟩ (.int .i64 t194)).setCell ⟨gb201, 3, none⟩ (.int .i64 t195)).setCell ⟨gb202, 0, none⟩ (.int .i64 t196)).setCell ⟨gb202, 1, none⟩ (.int .i64 t197)).setCell ⟨gb202, 2, none⟩ (.int .i64 t198)).setCell ⟨gb202, 3, none⟩ (.int .i64 t199)).heap[gb182]? = some (.cells #[.int .i64 a0_0, .int .i64 a0_1, .int .i64 a0_2, .int .i64 a0_3] 30 (0, 0))) := ⟨by (with_reducible repeat (first | refine blk_drewN ?_ _ | refine blk_drew ?_ | refine blk_alloc ?_ _)); refine blk_far ?_ NB182_202.out _; (with_reducible repeat (first | refine blk_drewN ?_ _ | refine blk_drew ?_ | refine blk_alloc ?_ _)); refine blk_far ?_ NB182_202.out _; (with_reducible repeat (first | refine blk_drewN ?_ _ | refine blk_drew ?_ | refine blk_alloc ?_ _)); refine blk_far ?_ NB182_202.out _; (with_reducible repeat (first | refine blk_drewN ?_ _ | refine blk_drew ?_ | refine blk_alloc ?_ _)); refine blk_far ?_ NB182_202.out _; (with_reducible repeat (first | refine blk_drewN ?_ _ | refine blk_drew ?_ | refine blk_alloc ?_ _)); refine blk_far ?_ NB182_201.out _; (with_reducible repeat (first | refine blk_drewN ?_ _ | refine blk_drew ?_ | refine blk_alloc ?_ _)); refine blk_far ?_ NB182_201.out _; (with_reducible repeat (first | refine blk_drewN ?_ _ | refine blk_drew ?_ | refine blk_alloc ?_ _)); refine blk_far ?_ NB182_201.out _; (with_reducible repeat (first | refine blk_drewN ?_ _ | refine blk_drew ?_ | refine blk_alloc ?_ _)); refine blk_far ?_ NB182_201.out _; (with_reducible repeat (first | refine blk_drewN ?_ _ | refine blk_drew ?_ | refine blk_alloc ?_ _)); exact BK182.out⟩
    have n1_ : Aside0 (((((((((w76.setCell ⟨gb201, 0, none⟩ (.int .i64 t192)).setCell ⟨gb201, 1, none⟩ (.int .i64 t193)).setCell ⟨gb201, 2, none⟩ (.int .i64 t194)).setCell ⟨gb201, 3, none⟩ (.int .i64 t195)).setCell ⟨gb202, 0, none⟩ (.int .i64 t196)).setCell ⟨gb202, 1, none⟩ (.int .i64 t197)).setCell ⟨gb202, 2, none⟩ (.int .i64 t198)).setCell ⟨gb202, 3, none⟩ (.int .i64 t199)).heap[gb183]? = some (.cells #[.int .i64 a1_0, .int .i64 a1_1, .int .i64 a1_2, .int .i64 a1_3] 30 (0, 0))) := ⟨by (with_reducible repeat (first | refine blk_drewN ?_ _ | refine blk_drew ?_ | refine blk_alloc ?_ _)); refine blk_far ?_ NB183_202.out _; (with_reducible repeat (first | refine blk_drewN ?_ _ | refine blk_drew ?_ | refine blk_alloc ?_ _)); refine blk_far ?_ NB183_202.out _; (with_reducible repeat (first | refine blk_drewN ?_ _ | refine blk_drew ?_ | refine blk_alloc ?_ _)); refine blk_far ?_ NB183_202.out _; (with_reducible repeat (first | refine blk_drewN ?_ _ | refine blk_drew ?_ | refine blk_alloc ?_ _)); refine blk_far ?_ NB183_202.out _; (with_reducible repeat (first | refine blk_drewN ?_ _ | refine blk_drew ?_ | refine blk_alloc ?_ _)); refine blk_far ?_ NB183_201.out _; (with_reducible repeat (first | refine blk_drewN ?_ _ | refine blk_drew ?_ | refine blk_alloc ?_ _)); refine blk_far ?_ NB183_201.out _; (with_reducible repeat (first | refine blk_drewN ?_ _ | refine blk_drew ?_ | refine blk_alloc ?_ _)); refine blk_far ?_ NB183_201.out _; (with_reducible repeat (first | refine blk_drewN ?_ _ | refine blk_drew ?_ | refine blk_alloc ?_ _)); refine blk_far ?_ NB183_201.out _; (with_reducible repeat (first | refine blk_drewN ?_ _ | refine blk_drew ?_ | refine blk_alloc ?_ _)); exact BK183.out⟩
    have n2_ : Aside0 (((((((((w76.setCell ⟨gb201, 0, none⟩ (.int .i64 t192)).setCell ⟨gb201, 1, none⟩ (.int .i64 t193)).setCell ⟨gb201, 2, none⟩ (.int .i64 t194)).setCell ⟨gb201, 3, none⟩ (.int .i64 t195)).setCell ⟨gb202, 0, none⟩ (.int .i64 t196)).setCell ⟨gb202, 1, none⟩ (.int .i64 t197)).setCell ⟨gb202, 2, none⟩ (.int .i64 t198)).setCell ⟨gb202, 3, none⟩ (.int .i64 t199)).heap[gb201]? = some (.cells #[.int .i64 t192, .int .i64 t193, .int .i64 t194, .int .i64 t195] 31 (0, 0))) := ⟨by (with_reducible repeat (first | refine blk_drewN ?_ _ | refine blk_drew ?_ | refine blk_alloc ?_ _)); refine blk_far ?_ NB201_202.out _; (with_reducible repeat (first | refine blk_drewN ?_ _ | refine blk_drew ?_ | refine blk_alloc ?_ _)); refine blk_far ?_ NB201_202.out _; (with_reducible repeat (first | refine blk_drewN ?_ _ | refine blk_drew ?_ | refine blk_alloc ?_ _)); refine blk_far ?_ NB201_202.out _; (with_reducible repeat (first | refine blk_drewN ?_ _ | refine blk_drew ?_ | refine blk_alloc ?_ _)); refine blk_far ?_ NB201_202.out _; (with_reducible repeat (first | refine blk_drewN ?_ _ | refine blk_drew ?_ | refine blk_alloc ?_ _)); refine blk_put (cs := #[.int .i64 t192, .int .i64 t193, .int .i64 t194, .int .i64 0]) ?_ 3 _ rfl; (with_reducible repeat (first | refine blk_drewN ?_ _ | refine blk_drew ?_ | refine blk_alloc ?_ _)); refine blk_put (cs := #[.int .i64 t192, .int .i64 t193, .int .i64 0, .int .i64 0]) ?_ 2 _ rfl; (with_reducible repeat (first | refine blk_drewN ?_ _ | refine blk_drew ?_ | refine blk_alloc ?_ _)); refine blk_put (cs := #[.int .i64 t192, .int .i64 0, .int .i64 0, .int .i64 0]) ?_ 1 _ rfl; (with_reducible repeat (first | refine blk_drewN ?_ _ | refine blk_drew ?_ | refine blk_alloc ?_ _)); refine blk_put (cs := #[.int .i64 0, .int .i64 0, .int .i64 0, .int .i64 0]) ?_ 0 _ rfl; (with_reducible repeat (first | refine blk_drewN ?_ _ | refine blk_drew ?_ | refine blk_alloc ?_ _)); exact BK201.out⟩
    have n3_ : Aside0 (((((((((w76.setCell ⟨gb201, 0, none⟩ (.int .i64 t192)).setCell ⟨gb201, 1, none⟩ (.int .i64 t193)).setCell ⟨gb201, 2, none⟩ (.int .i64 t194)).setCell ⟨gb201, 3, none⟩ (.int .i64 t195)).setCell ⟨gb202, 0, none⟩ (.int .i64 t196)).setCell ⟨gb202, 1, none⟩ (.int .i64 t197)).setCell ⟨gb202, 2, none⟩ (.int .i64 t198)).setCell ⟨gb202, 3, none⟩ (.int .i64 t199)).heap[gb202]? = some (.cells #[.int .i64 t196, .int .i64 t197, .int .i64 t198, .int .i64 t199] 31 (0, 0))) := ⟨by (with_reducible repeat (first | refine blk_drewN ?_ _ | refine blk_drew ?_ | refine blk_alloc ?_ _)); refine blk_put (cs := #[.int .i64 t196, .int .i64 t197, .int .i64 t198, .int .i64 0]) ?_ 3 _ rfl; (with_reducible repeat (first | refine blk_drewN ?_ _ | refine blk_drew ?_ | refine blk_alloc ?_ _)); refine blk_put (cs := #[.int .i64 t196, .int .i64 t197, .int .i64 0, .int .i64 0]) ?_ 2 _ rfl; (with_reducible repeat (first | refine blk_drewN ?_ _ | refine blk_drew ?_ | refine blk_alloc ?_ _)); refine blk_put (cs := #[.int .i64 t196, .int .i64 0, .int .i64 0, .int .i64 0]) ?_ 1 _ rfl; (with_reducible repeat (first | refine blk_drewN ?_ _ | refine blk_drew ?_ | refine blk_alloc ?_ _)); refine blk_put (cs := #[.int .i64 0, .int .i64 0, .int .i64 0, .int .i64 0]) ?_ 0 _ rfl; (with_reducible repeat (first | refine blk_drewN ?_ _ | refine blk_drew ?_ | refine blk_alloc ?_ _)); refine blk_far ?_ NB202_201.out _; (with_reducible repeat (first | refine blk_drewN ?_ _ | refine blk_drew ?_ | refine blk_alloc ?_ _)); refine blk_far ?_ NB202_201.out _; (with_reducible repeat (first | refine blk_drewN ?_ _ | refine blk_drew ?_ | refine blk_alloc ?_ _)); refine blk_far ?_ NB202_201.out _; (with_reducible repeat (first | refine blk_drewN ?_ _ | refine blk_drew ?_ | refine blk_alloc ?_ _)); refine blk_far ?_ NB202_201.out _; (with_reducible repeat (first | refine blk_drewN ?_ _ | refine blk_drew ?_ | refine blk_alloc ?_ _)); exact BK202.out⟩
    have n4_ : Aside0 (Below w.heap.size w ((((((((w76.setCell ⟨gb201, 0, none⟩ (.int .i64 t192)).setCell ⟨gb201, 1, none⟩ (.int .i64 t193)).setCell ⟨gb201, 2, none⟩ (.int .i64 t194)).setCell ⟨gb201, 3, none⟩ (.int .i64 t195)).setCell ⟨gb202, 0, none⟩ (.int .i64 t196)).setCell ⟨gb202, 1, none⟩ (.int .i64 t197)).setCell ⟨gb202, 2, none⟩ (.int .i64 t198)).setCell ⟨gb202, 3, none⟩ (.int .i64 t199))) := ⟨blw⟩
    (try clear BK182)
    (try clear BK183)
    (try clear BK201)
    (try clear BK202)
    (try clear HB)
    generalize ((((((((w76.setCell ⟨gb201, 0, none⟩ (.int .i64 t192)).setCell ⟨gb201, 1, none⟩ (.int .i64 t193)).setCell ⟨gb201, 2, none⟩ (.int .i64 t194)).setCell ⟨gb201, 3, none⟩ (.int .i64 t195)).setCell ⟨gb202, 0, none⟩ (.int .i64 t196)).setCell ⟨gb202, 1, none⟩ (.int .i64 t197)).setCell ⟨gb202, 2, none⟩ (.int .i64 t198)).setCell ⟨gb202, 3, none⟩ (.int .i64 t199)) = w85 at n0_ n1_ n2_ n3_ n4_ ⊢
    have BK182 := n0_
    have BK183 := n1_
    have BK201 := n2_
    have BK202 := n3_
    have HB := n4_
    clear n0_ n1_ n2_ n3_ n4_
    have n0_ := Aside0.mk (blk_drew BK182.out)
    have n1_ := Aside0.mk (blk_drew BK183.out)
    have n2_ := Aside0.mk (blk_drew BK201.out)
    have n3_ := Aside0.mk (blk_drew BK202.out)
    have n4_ := Aside0.mk (below_drew1 HB.out)
    clear BK182
    clear BK183
    clear BK201
    clear BK202
    clear HB
    have BK182 := n0_
    have BK183 := n1_
    have BK201 := n2_
    have BK202 := n3_
    have HB := n4_
    clear n0_ n1_ n2_ n3_ n4_
    refine start_ (n := 15) (S := fun w' => w'.cell? ⟨gb182, 0, none⟩ = some (.int .i64 a0_0) ∧ w'.cell? ⟨gb182, 1, none⟩ = some (.int .i64 a0_1) ∧ w'.cell? ⟨gb182, 2, none⟩ = some (.int .i64 a0_2) ∧ w'.cell? ⟨gb182, 3, none⟩ = some (.int .i64 a0_3) ∧ w'.cell? ⟨gb183, 0, none⟩ = some (.int .i64 a1_0) ∧ w'.cell? ⟨gb183, 1, none⟩ = some (.int .i64 a1_1) ∧ w'.cell? ⟨gb183, 2, none⟩ = some (.int .i64 a1_2) ∧ w'.cell? ⟨gb183, 3, none⟩ = some (.int .i64 a1_3)) (ds := []) #[false, false, false, false, false, false, false, false, false, false, false, false, false, false, false] (by kernel_rfl) rfl rfl ⟨z_c BK182 0, z_c BK182 1, z_c BK182 2, z_c BK182 3, z_c BK183 0, z_c BK183 1, z_c BK183 2, z_c BK183 3⟩ (fun hHeld => ?_); refine with_tabW laws_FnExactPushPair.tab2 laws_FnExactPushPair.bits2 (fun HT_ HW_ => ?_)
    generalize w85.drew = w86 at BK182 BK183 BK201 BK202 HB hHeld ⊢
    refine pure_ (i := 4) (N := some 28) (v := ?_) (a' := ?_) #[false, false, false, false, true, false, false, false, false, false, false, false, false, false, false] rfl rfl (any_of HT_.out (by kernel_rfl)) (fun _ _ _ h => h) (Or.inl ⟨by rfl, ?_⟩) ?_ ?_
    rotate_left
    ·intro w'
     go_simp
     with_reducible rfl
    rotate_left
    ·simp only [Act.put, sp1, sp2, sp3, i64_w, i32_w]
     rfl
    refine take_ (i := 0) (N := some 24) (v := ?_) (a' := ?_) #[true, false, false, false, true, false, false, false, false, false, false, false, false, false, false] rfl rfl (take_ofW HT_.out HW_.out (by kernel_rfl)) (fun _ _ _ h => h) (Or.inl ⟨by rfl, ?_⟩) hHeld ?_ ?_
    rotate_left
    ·rintro w' ⟨s0, s1, s2, s3, s4, s5, s6, s7⟩
     go_simp
     with_reducible rfl
    rotate_left
    ·simp only [Act.put, sp1, sp2, sp3, i64_w, i32_w]
     rfl
    refine take_ (i := 2) (N := some 26) (v := ?_) (a' := ?_) #[true, false, true, false, true, false, false, false, false, false, false, false, false, false, false] rfl rfl (take_ofW HT_.out HW_.out (by kernel_rfl)) (fun _ _ _ h => h) (Or.inl ⟨by rfl, ?_⟩) hHeld ?_ ?_
    rotate_left
    ·rintro w' ⟨s0, s1, s2, s3, s4, s5, s6, s7⟩
     go_simp
     with_reducible rfl
    rotate_left
    ·simp only [Act.put, sp1, sp2, sp3, i64_w, i32_w]
     rfl
    refine join_ (σ := Nat × Nat) 3 #[true, true, true, true, true, true, true, true, true, true, true, true, false, false, false] (fun s_ => [(25, .agg #[.int .i64 t203, .int .i64 t204, .int .i64 t205, .int .i64 t206]), (27, .agg #[.int .i64 t207, .int .i64 t208, .int .i64 t209, .int .i64 t210]), (29, .tuple #[.agg #[.int .i64 t211, .int .i64 t212, .int .i64 t213, .int .i64 t214], .agg #[.int .i64 t215, .int .i64 t216, .int .i64 t217, .int .i64 t218], .bool t219]), (10, .pointer (some ⟨s_.1, 0, none⟩)), (11, .pointer (some ⟨s_.2, 0, none⟩)), (23, .tuple #[.agg #[.int .i64 t211, .int .i64 t212, .int .i64 t213, .int .i64 t214], .agg #[.int .i64 t215, .int .i64 t216, .int .i64 t217, .int .i64 t218], .bool t219]), (30, .agg #[.int .i64 t211, .int .i64 t212, .int .i64 t213, .int .i64 t214]), (31, .agg #[.int .i64 t215, .int .i64 t216, .int .i64 t217, .int .i64 t218]), (32, .bool t219)]) (fun s_ w' => (w'.cell? ⟨gb182, 0, none⟩ = some (.int .i64 a0_0) ∧ w'.cell? ⟨gb182, 1, none⟩ = some (.int .i64 a0_1) ∧ w'.cell? ⟨gb182, 2, none⟩ = some (.int .i64 a0_2) ∧ w'.cell? ⟨gb182, 3, none⟩ = some (.int .i64 a0_3) ∧ w'.cell? ⟨gb183, 0, none⟩ = some (.int .i64 a1_0) ∧ w'.cell? ⟨gb183, 1, none⟩ = some (.int .i64 a1_1) ∧ w'.cell? ⟨gb183, 2, none⟩ = some (.int .i64 a1_2) ∧ w'.cell? ⟨gb183, 3, none⟩ = some (.int .i64 a1_3)) ∧ (w'.heap[gb182]? = some (.cells #[.int .i64 a0_0, .int .i64 a0_1, .int .i64 a0_2, .int .i64 a0_3] 30 (0, 0))) ∧ (w'.heap[gb183]? = some (.cells #[.int .i64 a1_0, .int .i64 a1_1, .int .i64 a1_2, .int .i64 a1_3] 30 (0, 0))) ∧ (w'.heap[gb201]? = some (.cells #[.int .i64 t192, .int .i64 t193, .int .i64 t194, .int .i64 t195] 31 (0, 0))) ∧ (w'.heap[gb202]? = some (.cells #[.int .i64 t196, .int .i64 t197, .int .i64 t198, .int .i64 t199] 31 (0, 0))) ∧ (w'.heap[s_.1]? = some (.cells #[.int .i64 0, .int .i64 0, .int .i64 0, .int .i64 0] 31 (0, 0))) ∧ (w'.heap[s_.2]? = some (.cells #[.int .i64 0, .int .i64 0, .int .i64 0, .int .i64 0] 31 (0, 0))) ∧ (w.heap.size ≤ s_.1) ∧ (w.heap.size ≤ s_.1) ∧ (gb182 ≠ s_.1) ∧ (s_.1 ≠ gb182) ∧ (gb183 ≠ s_.1) ∧ (s_.1 ≠ gb183) ∧ (gb201 ≠ s_.1) ∧ (s_.1 ≠ gb201) ∧ (gb202 ≠ s_.1) ∧ (s_.1 ≠ gb202) ∧ (s_.2 ≠ s_.1) ∧ (s_.1 ≠ s_.2) ∧ (w.heap.size ≤ s_.2) ∧ (w.heap.size ≤ s_.2) ∧ (gb182 ≠ s_.2) ∧ (s_.2 ≠ gb182) ∧ (gb183 ≠ s_.2) ∧ (s_.2 ≠ gb183) ∧ (gb201 ≠ s_.2) ∧ (s_.2 ≠ gb201) ∧ (gb202 ≠ s_.2) ∧ (s_.2 ≠ gb202) ∧ (Below w.heap.size w w')) ?_ ?_
    rotate_left
    ·intro hJ1_3_5_10_11
     refine join_ (σ := Nat) 4 #[true, true, true, true, true, true, true, true, true, true, true, false, false, false, false] (fun s_ => [(25, .agg #[.int .i64 t203, .int .i64 t204, .int .i64 t205, .int .i64 t206]), (27, .agg #[.int .i64 t207, .int .i64 t208, .int .i64 t209, .int .i64 t210]), (29, .tuple #[.agg #[.int .i64 t211, .int .i64 t212, .int .i64 t213, .int .i64 t214], .agg #[.int .i64 t215, .int .i64 t216, .int .i64 t217, .int .i64 t218], .bool t219]), (10, .pointer (some ⟨s_, 0, none⟩)), (23, .tuple #[.agg #[.int .i64 t211, .int .i64 t212, .int .i64 t213, .int .i64 t214], .agg #[.int .i64 t215, .int .i64 t216, .int .i64 t217, .int .i64 t218], .bool t219]), (30, .agg #[.int .i64 t211, .int .i64 t212, .int .i64 t213, .int .i64 t214]), (31, .agg #[.int .i64 t215, .int .i64 t216, .int .i64 t217, .int .i64 t218]), (32, .bool t219)]) (fun s_ w' => (w'.cell? ⟨gb182, 0, none⟩ = some (.int .i64 a0_0) ∧ w'.cell? ⟨gb182, 1, none⟩ = some (.int .i64 a0_1) ∧ w'.cell? ⟨gb182, 2, none⟩ = some (.int .i64 a0_2) ∧ w'.cell? ⟨gb182, 3, none⟩ = some (.int .i64 a0_3) ∧ w'.cell? ⟨gb183, 0, none⟩ = some (.int .i64 a1_0) ∧ w'.cell? ⟨gb183, 1, none⟩ = some (.int .i64 a1_1) ∧ w'.cell? ⟨gb183, 2, none⟩ = some (.int .i64 a1_2) ∧ w'.cell? ⟨gb183, 3, none⟩ = some (.int .i64 a1_3)) ∧ (w'.heap[gb182]? = some (.cells #[.int .i64 a0_0, .int .i64 a0_1, .int .i64 a0_2, .int .i64 a0_3] 30 (0, 0))) ∧ (w'.heap[gb183]? = some (.cells #[.int .i64 a1_0, .int .i64 a1_1, .int .i64 a1_2, .int .i64 a1_3] 30 (0, 0))) ∧ (w'.heap[gb201]? = some (.cells #[.int .i64 t192, .int .i64 t193, .int .i64 t194, .int .i64 t195] 31 (0, 0))) ∧ (w'.heap[gb202]? = some (.cells #[.int .i64 t196, .int .i64 t197, .int .i64 t198, .int .i64 t199] 31 (0, 0))) ∧ (w'.heap[s_]? = some (.cells #[.int .i64 0, .int .i64 0, .int .i64 0, .int .i64 0] 31 (0, 0))) ∧ (w.heap.size ≤ s_) ∧ (w.heap.size ≤ s_) ∧ (gb182 ≠ s_) ∧ (s_ ≠ gb182) ∧ (gb183 ≠ s_) ∧ (s_ ≠ gb183) ∧ (gb201 ≠ s_) ∧ (s_ ≠ gb201) ∧ (gb202 ≠ s_) ∧ (s_ ≠ gb202) ∧ (Below w.heap.size w w')) ?_ ?_
     rotate_left
     ·intro hJ1_3_5_10
      refine join_ (σ := Nat) 4 #[true, true, true, true, true, true, true, true, true, true, false, true, false, false, false] (fun s_ => [(25, .agg #[.int .i64 t203, .int .i64 t204, .int .i64 t205, .int .i64 t206]), (27, .agg #[.int .i64 t207, .int .i64 t208, .int .i64 t209, .int .i64 t210]), (29, .tuple #[.agg #[.int .i64 t211, .int .i64 t212, .int .i64 t213, .int .i64 t214], .agg #[.int .i64 t215, .int .i64 t216, .int .i64 t217, .int .i64 t218], .bool t219]), (11, .pointer (some ⟨s_, 0, none⟩)), (23, .tuple #[.agg #[.int .i64 t211, .int .i64 t212, .int .i64 t213, .int .i64 t214], .agg #[.int .i64 t215, .int .i64 t216, .int .i64 t217, .int .i64 t218], .bool t219]), (30, .agg #[.int .i64 t211, .int .i64 t212, .int .i64 t213, .int .i64 t214]), (31, .agg #[.int .i64 t215, .int .i64 t216, .int .i64 t217, .int .i64 t218]), (32, .bool t219)]) (fun s_ w' => (w'.cell? ⟨gb182, 0, none⟩ = some (.int .i64 a0_0) ∧ w'.cell? ⟨gb182, 1, none⟩ = some (.int .i64 a0_1) ∧ w'.cell? ⟨gb182, 2, none⟩ = some (.int .i64 a0_2) ∧ w'.cell? ⟨gb182, 3, none⟩ = some (.int .i64 a0_3) ∧ w'.cell? ⟨gb183, 0, none⟩ = some (.int .i64 a1_0) ∧ w'.cell? ⟨gb183, 1, none⟩ = some (.int .i64 a1_1) ∧ w'.cell? ⟨gb183, 2, none⟩ = some (.int .i64 a1_2) ∧ w'.cell? ⟨gb183, 3, none⟩ = some (.int .i64 a1_3)) ∧ (w'.heap[gb182]? = some (.cells #[.int .i64 a0_0, .int .i64 a0_1, .int .i64 a0_2, .int .i64 a0_3] 30 (0, 0))) ∧ (w'.heap[gb183]? = some (.cells #[.int .i64 a1_0, .int .i64 a1_1, .int .i64 a1_2, .int .i64 a1_3] 30 (0, 0))) ∧ (w'.heap[gb201]? = some (.cells #[.int .i64 t192, .int .i64 t193, .int .i64 t194, .int .i64 t195] 31 (0, 0))) ∧ (w'.heap[gb202]? = some (.cells #[.int .i64 t196, .int .i64 t197, .int .i64 t198, .int .i64 t199] 31 (0, 0))) ∧ (w'.heap[s_]? = some (.cells #[.int .i64 0, .int .i64 0, .int .i64 0, .int .i64 0] 31 (0, 0))) ∧ (w.heap.size ≤ s_) ∧ (w.heap.size ≤ s_) ∧ (gb182 ≠ s_) ∧ (s_ ≠ gb182) ∧ (gb183 ≠ s_) ∧ (s_ ≠ gb183) ∧ (gb201 ≠ s_) ∧ (s_ ≠ gb201) ∧ (gb202 ≠ s_) ∧ (s_ ≠ gb202) ∧ (Below w.heap.size w w')) ?_ ?_
      rotate_left
      ·intro hJ1_3_5_11
       refine join_ (σ := Nat × Nat) 8 #[true, true, true, true, true, false, false, false, false, false, true, true, false, false, false] (fun s_ => [(25, .agg #[.int .i64 t203, .int .i64 t204, .int .i64 t205, .int .i64 t206]), (27, .agg #[.int .i64 t207, .int .i64 t208, .int .i64 t209, .int .i64 t210]), (10, .pointer (some ⟨s_.1, 0, none⟩)), (11, .pointer (some ⟨s_.2, 0, none⟩))]) (fun s_ w' => (w'.cell? ⟨gb182, 0, none⟩ = some (.int .i64 a0_0) ∧ w'.cell? ⟨gb182, 1, none⟩ = some (.int .i64 a0_1) ∧ w'.cell? ⟨gb182, 2, none⟩ = some (.int .i64 a0_2) ∧ w'.cell? ⟨gb182, 3, none⟩ = some (.int .i64 a0_3) ∧ w'.cell? ⟨gb183, 0, none⟩ = some (.int .i64 a1_0) ∧ w'.cell? ⟨gb183, 1, none⟩ = some (.int .i64 a1_1) ∧ w'.cell? ⟨gb183, 2, none⟩ = some (.int .i64 a1_2) ∧ w'.cell? ⟨gb183, 3, none⟩ = some (.int .i64 a1_3)) ∧ (w'.heap[gb182]? = some (.cells #[.int .i64 a0_0, .int .i64 a0_1, .int .i64 a0_2, .int .i64 a0_3] 30 (0, 0))) ∧ (w'.heap[gb183]? = some (.cells #[.int .i64 a1_0, .int .i64 a1_1, .int .i64 a1_2, .int .i64 a1_3] 30 (0, 0))) ∧ (w'.heap[gb201]? = some (.cells #[.int .i64 t192, .int .i64 t193, .int .i64 t194, .int .i64 t195] 31 (0, 0))) ∧ (w'.heap[gb202]? = some (.cells #[.int .i64 t196, .int .i64 t197, .int .i64 t198, .int .i64 t199] 31 (0, 0))) ∧ (w'.heap[s_.1]? = some (.cells #[.int .i64 0, .int .i64 0, .int .i64 0, .int .i64 0] 31 (0, 0))) ∧ (w'.heap[s_.2]? = some (.cells #[.int .i64 0, .int .i64 0, .int .i64 0, .int .i64 0] 31 (0, 0))) ∧ (w.heap.size ≤ s_.1) ∧ (w.heap.size ≤ s_.1) ∧ (gb182 ≠ s_.1) ∧ (s_.1 ≠ gb182) ∧ (gb183 ≠ s_.1) ∧ (s_.1 ≠ gb183) ∧ (gb201 ≠ s_.1) ∧ (s_.1 ≠ gb201) ∧ (gb202 ≠ s_.1) ∧ (s_.1 ≠ gb202) ∧ (s_.2 ≠ s_.1) ∧ (s_.1 ≠ s_.2) ∧ (w.heap.size ≤ s_.2) ∧ (w.heap.size ≤ s_.2) ∧ (gb182 ≠ s_.2) ∧ (s_.2 ≠ gb182) ∧ (gb183 ≠ s_.2) ∧ (s_.2 ≠ gb183) ∧ (gb201 ≠ s_.2) ∧ (s_.2 ≠ gb201) ∧ (gb202 ≠ s_.2) ∧ (s_.2 ≠ gb202) ∧ (Below w.heap.size w w')) ?_ ?_
       rotate_left
       ·intro hJ1_3_10_11
        refine join_ (σ := Unit) 5 #[true, true, true, true, true, true, true, true, true, true, false, false, false, false, false] (fun s_ => [(25, .agg #[.int .i64 t203, .int .i64 t204, .int .i64 t205, .int .i64 t206]), (27, .agg #[.int .i64 t207, .int .i64 t208, .int .i64 t209, .int .i64 t210]), (29, .tuple #[.agg #[.int .i64 t211, .int .i64 t212, .int .i64 t213, .int .i64 t214], .agg #[.int .i64 t215, .int .i64 t216, .int .i64 t217, .int .i64 t218], .bool t219]), (23, .tuple #[.agg #[.int .i64 t211, .int .i64 t212, .int .i64 t213, .int .i64 t214], .agg #[.int .i64 t215, .int .i64 t216, .int .i64 t217, .int .i64 t218], .bool t219]), (30, .agg #[.int .i64 t211, .int .i64 t212, .int .i64 t213, .int .i64 t214]), (31, .agg #[.int .i64 t215, .int .i64 t216, .int .i64 t217, .int .i64 t218]), (32, .bool t219)]) (fun s_ w' => (w'.cell? ⟨gb182, 0, none⟩ = some (.int .i64 a0_0) ∧ w'.cell? ⟨gb182, 1, none⟩ = some (.int .i64 a0_1) ∧ w'.cell? ⟨gb182, 2, none⟩ = some (.int .i64 a0_2) ∧ w'.cell? ⟨gb182, 3, none⟩ = some (.int .i64 a0_3) ∧ w'.cell? ⟨gb183, 0, none⟩ = some (.int .i64 a1_0) ∧ w'.cell? ⟨gb183, 1, none⟩ = some (.int .i64 a1_1) ∧ w'.cell? ⟨gb183, 2, none⟩ = some (.int .i64 a1_2) ∧ w'.cell? ⟨gb183, 3, none⟩ = some (.int .i64 a1_3)) ∧ (w'.heap[gb182]? = some (.cells #[.int .i64 a0_0, .int .i64 a0_1, .int .i64 a0_2, .int .i64 a0_3] 30 (0, 0))) ∧ (w'.heap[gb183]? = some (.cells #[.int .i64 a1_0, .int .i64 a1_1, .int .i64 a1_2, .int .i64 a1_3] 30 (0, 0))) ∧ (w'.heap[gb201]? = some (.cells #[.int .i64 t192, .int .i64 t193, .int .i64 t194, .int .i64 t195] 31 (0, 0))) ∧ (w'.heap[gb202]? = some (.cells #[.int .i64 t196, .int .i64 t197, .int .i64 t198, .int .i64 t199] 31 (0, 0))) ∧ (Below w.heap.size w w')) ?_ ?_
        rotate_left
        ·intro hJ1_3_5
         refine join_ (σ := Nat) 9 #[true, true, true, true, true, false, false, false, false, false, true, false, false, false, false] (fun s_ => [(25, .agg #[.int .i64 t203, .int .i64 t204, .int .i64 t205, .int .i64 t206]), (27, .agg #[.int .i64 t207, .int .i64 t208, .int .i64 t209, .int .i64 t210]), (10, .pointer (some ⟨s_, 0, none⟩))]) (fun s_ w' => (w'.cell? ⟨gb182, 0, none⟩ = some (.int .i64 a0_0) ∧ w'.cell? ⟨gb182, 1, none⟩ = some (.int .i64 a0_1) ∧ w'.cell? ⟨gb182, 2, none⟩ = some (.int .i64 a0_2) ∧ w'.cell? ⟨gb182, 3, none⟩ = some (.int .i64 a0_3) ∧ w'.cell? ⟨gb183, 0, none⟩ = some (.int .i64 a1_0) ∧ w'.cell? ⟨gb183, 1, none⟩ = some (.int .i64 a1_1) ∧ w'.cell? ⟨gb183, 2, none⟩ = some (.int .i64 a1_2) ∧ w'.cell? ⟨gb183, 3, none⟩ = some (.int .i64 a1_3)) ∧ (w'.heap[gb182]? = some (.cells #[.int .i64 a0_0, .int .i64 a0_1, .int .i64 a0_2, .int .i64 a0_3] 30 (0, 0))) ∧ (w'.heap[gb183]? = some (.cells #[.int .i64 a1_0, .int .i64 a1_1, .int .i64 a1_2, .int .i64 a1_3] 30 (0, 0))) ∧ (w'.heap[gb201]? = some (.cells #[.int .i64 t192, .int .i64 t193, .int .i64 t194, .int .i64 t195] 31 (0, 0))) ∧ (w'.heap[gb202]? = some (.cells #[.int .i64 t196, .int .i64 t197, .int .i64 t198, .int .i64 t199] 31 (0, 0))) ∧ (w'.heap[s_]? = some (.cells #[.int .i64 0, .int .i64 0, .int .i64 0, .int .i64 0] 31 (0, 0))) ∧ (w.heap.size ≤ s_) ∧ (w.heap.size ≤ s_) ∧ (gb182 ≠ s_) ∧ (s_ ≠ gb182) ∧ (gb183 ≠ s_) ∧ (s_ ≠ gb183) ∧ (gb201 ≠ s_) ∧ (s_ ≠ gb201) ∧ (gb202 ≠ s_) ∧ (s_ ≠ gb202) ∧ (Below w.heap.size w w')) ?_ ?_
         rotate_left
         ·intro hJ1_3_10
          refine join_ (σ := Nat) 9 #[true, true, true, true, true, false, false, false, false, false, false, true, false, false, false] (fun s_ => [(25, .agg #[.int .i64 t203, .int .i64 t204, .int .i64 t205, .int .i64 t206]), (27, .agg #[.int .i64 t207, .int .i64 t208, .int .i64 t209, .int .i64 t210]), (11, .pointer (some ⟨s_, 0, none⟩))]) (fun s_ w' => (w'.cell? ⟨gb182, 0, none⟩ = some (.int .i64 a0_0) ∧ w'.cell? ⟨gb182, 1, none⟩ = some (.int .i64 a0_1) ∧ w'.cell? ⟨gb182, 2, none⟩ = some (.int .i64 a0_2) ∧ w'.cell? ⟨gb182, 3, none⟩ = some (.int .i64 a0_3) ∧ w'.cell? ⟨gb183, 0, none⟩ = some (.int .i64 a1_0) ∧ w'.cell? ⟨gb183, 1, none⟩ = some (.int .i64 a1_1) ∧ w'.cell? ⟨gb183, 2, none⟩ = some (.int .i64 a1_2) ∧ w'.cell? ⟨gb183, 3, none⟩ = some (.int .i64 a1_3)) ∧ (w'.heap[gb182]? = some (.cells #[.int .i64 a0_0, .int .i64 a0_1, .int .i64 a0_2, .int .i64 a0_3] 30 (0, 0))) ∧ (w'.heap[gb183]? = some (.cells #[.int .i64 a1_0, .int .i64 a1_1, .int .i64 a1_2, .int .i64 a1_3] 30 (0, 0))) ∧ (w'.heap[gb201]? = some (.cells #[.int .i64 t192, .int .i64 t193, .int .i64 t194, .int .i64 t195] 31 (0, 0))) ∧ (w'.heap[gb202]? = some (.cells #[.int .i64 t196, .int .i64 t197, .int .i64 t198, .int .i64 t199] 31 (0, 0))) ∧ (w'.heap[s_]? = some (.cells #[.int .i64 0, .int .i64 0, .int .i64 0, .int .i64 0] 31 (0, 0))) ∧ (w.heap.size ≤ s_) ∧ (w.heap.size ≤ s_) ∧ (gb182 ≠ s_) ∧ (s_ ≠ gb182) ∧ (gb183 ≠ s_) ∧ (s_ ≠ gb183) ∧ (gb201 ≠ s_) ∧ (s_ ≠ gb201) ∧ (gb202 ≠ s_) ∧ (s_ ≠ gb202) ∧ (Below w.heap.size w w')) ?_ ?_
          rotate_left
          ·intro hJ1_3_11
           refine join_ (σ := Nat × Nat) 9 #[true, true, true, false, true, false, false, false, false, false, true, true, false, false, false] (fun s_ => [(25, .agg #[.int .i64 t203, .int .i64 t204, .int .i64 t205, .int .i64 t206]), (10, .pointer (some ⟨s_.1, 0, none⟩)), (11, .pointer (some ⟨s_.2, 0, none⟩))]) (fun s_ w' => (w'.cell? ⟨gb182, 0, none⟩ = some (.int .i64 a0_0) ∧ w'.cell? ⟨gb182, 1, none⟩ = some (.int .i64 a0_1) ∧ w'.cell? ⟨gb182, 2, none⟩ = some (.int .i64 a0_2) ∧ w'.cell? ⟨gb182, 3, none⟩ = some (.int .i64 a0_3) ∧ w'.cell? ⟨gb183, 0, none⟩ = some (.int .i64 a1_0) ∧ w'.cell? ⟨gb183, 1, none⟩ = some (.int .i64 a1_1) ∧ w'.cell? ⟨gb183, 2, none⟩ = some (.int .i64 a1_2) ∧ w'.cell? ⟨gb183, 3, none⟩ = some (.int .i64 a1_3)) ∧ (w'.heap[gb182]? = some (.cells #[.int .i64 a0_0, .int .i64 a0_1, .int .i64 a0_2, .int .i64 a0_3] 30 (0, 0))) ∧ (w'.heap[gb183]? = some (.cells #[.int .i64 a1_0, .int .i64 a1_1, .int .i64 a1_2, .int .i64 a1_3] 30 (0, 0))) ∧ (w'.heap[gb201]? = some (.cells #[.int .i64 t192, .int .i64 t193, .int .i64 t194, .int .i64 t195] 31 (0, 0))) ∧ (w'.heap[gb202]? = some (.cells #[.int .i64 t196, .int .i64 t197, .int .i64 t198, .int .i64 t199] 31 (0, 0))) ∧ (w'.heap[s_.1]? = some (.cells #[.int .i64 0, .int .i64 0, .int .i64 0, .int .i64 0] 31 (0, 0))) ∧ (w'.heap[s_.2]? = some (.cells #[.int .i64 0, .int .i64 0, .int .i64 0, .int .i64 0] 31 (0, 0))) ∧ (w.heap.size ≤ s_.1) ∧ (w.heap.size ≤ s_.1) ∧ (gb182 ≠ s_.1) ∧ (s_.1 ≠ gb182) ∧ (gb183 ≠ s_.1) ∧ (s_.1 ≠ gb183) ∧ (gb201 ≠ s_.1) ∧ (s_.1 ≠ gb201) ∧ (gb202 ≠ s_.1) ∧ (s_.1 ≠ gb202) ∧ (s_.2 ≠ s_.1) ∧ (s_.1 ≠ s_.2) ∧ (w.heap.size ≤ s_.2) ∧ (w.heap.size ≤ s_.2) ∧ (gb182 ≠ s_.2) ∧ (s_.2 ≠ gb182) ∧ (gb183 ≠ s_.2) ∧ (s_.2 ≠ gb183) ∧ (gb201 ≠ s_.2) ∧ (s_.2 ≠ gb201) ∧ (gb202 ≠ s_.2) ∧ (s_.2 ≠ gb202) ∧ (Below w.heap.size w w')) ?_ ?_
           rotate_left
           ·intro hJ1_10_11
            refine join_ (σ := Unit) 10 #[true, true, true, true, true, false, false, false, false, false, false, false, false, false, false] (fun s_ => [(25, .agg #[.int .i64 t203, .int .i64 t204, .int .i64 t205, .int .i64 t206]), (27, .agg #[.int .i64 t207, .int .i64 t208, .int .i64 t209, .int .i64 t210])]) (fun s_ w' => (w'.cell? ⟨gb182, 0, none⟩ = some (.int .i64 a0_0) ∧ w'.cell? ⟨gb182, 1, none⟩ = some (.int .i64 a0_1) ∧ w'.cell? ⟨gb182, 2, none⟩ = some (.int .i64 a0_2) ∧ w'.cell? ⟨gb182, 3, none⟩ = some (.int .i64 a0_3) ∧ w'.cell? ⟨gb183, 0, none⟩ = some (.int .i64 a1_0) ∧ w'.cell? ⟨gb183, 1, none⟩ = some (.int .i64 a1_1) ∧ w'.cell? ⟨gb183, 2, none⟩ = some (.int .i64 a1_2) ∧ w'.cell? ⟨gb183, 3, none⟩ = some (.int .i64 a1_3)) ∧ (w'.heap[gb182]? = some (.cells #[.int .i64 a0_0, .int .i64 a0_1, .int .i64 a0_2, .int .i64 a0_3] 30 (0, 0))) ∧ (w'.heap[gb183]? = some (.cells #[.int .i64 a1_0, .int .i64 a1_1, .int .i64 a1_2, .int .i64 a1_3] 30 (0, 0))) ∧ (w'.heap[gb201]? = some (.cells #[.int .i64 t192, .int .i64 t193, .int .i64 t194, .int .i64 t195] 31 (0, 0))) ∧ (w'.heap[gb202]? = some (.cells #[.int .i64 t196, .int .i64 t197, .int .i64 t198, .int .i64 t199] 31 (0, 0))) ∧ (Below w.heap.size w w')) ?_ ?_
            rotate_left
            ·intro hJ1_3
             refine join_ (σ := Nat) 10 #[true, true, true, false, true, false, false, false, false, false, true, false, false, false, false] (fun s_ => [(25, .agg #[.int .i64 t203, .int .i64 t204, .int .i64 t205, .int .i64 t206]), (10, .pointer (some ⟨s_, 0, none⟩))]) (fun s_ w' => (w'.cell? ⟨gb182, 0, none⟩ = some (.int .i64 a0_0) ∧ w'.cell? ⟨gb182, 1, none⟩ = some (.int .i64 a0_1) ∧ w'.cell? ⟨gb182, 2, none⟩ = some (.int .i64 a0_2) ∧ w'.cell? ⟨gb182, 3, none⟩ = some (.int .i64 a0_3) ∧ w'.cell? ⟨gb183, 0, none⟩ = some (.int .i64 a1_0) ∧ w'.cell? ⟨gb183, 1, none⟩ = some (.int .i64 a1_1) ∧ w'.cell? ⟨gb183, 2, none⟩ = some (.int .i64 a1_2) ∧ w'.cell? ⟨gb183, 3, none⟩ = some (.int .i64 a1_3)) ∧ (w'.heap[gb182]? = some (.cells #[.int .i64 a0_0, .int .i64 a0_1, .int .i64 a0_2, .int .i64 a0_3] 30 (0, 0))) ∧ (w'.heap[gb183]? = some (.cells #[.int .i64 a1_0, .int .i64 a1_1, .int .i64 a1_2, .int .i64 a1_3] 30 (0, 0))) ∧ (w'.heap[gb201]? = some (.cells #[.int .i64 t192, .int .i64 t193, .int .i64 t194, .int .i64 t195] 31 (0, 0))) ∧ (w'.heap[gb202]? = some (.cells #[.int .i64 t196, .int .i64 t197, .int .i64 t198, .int .i64 t199] 31 (0, 0))) ∧ (w'.heap[s_]? = some (.cells #[.int .i64 0, .int .i64 0, .int .i64 0, .int .i64 0] 31 (0, 0))) ∧ (w.heap.size ≤ s_) ∧ (w.heap.size ≤ s_) ∧ (gb182 ≠ s_) ∧ (s_ ≠ gb182) ∧ (gb183 ≠ s_) ∧ (s_ ≠ gb183) ∧ (gb201 ≠ s_) ∧ (s_ ≠ gb201) ∧ (gb202 ≠ s_) ∧ (s_ ≠ gb202) ∧ (Below w.heap.size w w')) ?_ ?_
             rotate_left
             ·intro hJ1_10
              refine join_ (σ := Nat) 10 #[true, true, true, false, true, false, false, false, false, false, false, true, false, false, false] (fun s_ => [(25, .agg #[.int .i64 t203, .int .i64 t204, .int .i64 t205, .int .i64 t206]), (11, .pointer (some ⟨s_, 0, none⟩))]) (fun s_ w' => (w'.cell? ⟨gb182, 0, none⟩ = some (.int .i64 a0_0) ∧ w'.cell? ⟨gb182, 1, none⟩ = some (.int .i64 a0_1) ∧ w'.cell? ⟨gb182, 2, none⟩ = some (.int .i64 a0_2) ∧ w'.cell? ⟨gb182, 3, none⟩ = some (.int .i64 a0_3) ∧ w'.cell? ⟨gb183, 0, none⟩ = some (.int .i64 a1_0) ∧ w'.cell? ⟨gb183, 1, none⟩ = some (.int .i64 a1_1) ∧ w'.cell? ⟨gb183, 2, none⟩ = some (.int .i64 a1_2) ∧ w'.cell? ⟨gb183, 3, none⟩ = some (.int .i64 a1_3)) ∧ (w'.heap[gb182]? = some (.cells #[.int .i64 a0_0, .int .i64 a0_1, .int .i64 a0_2, .int .i64 a0_3] 30 (0, 0))) ∧ (w'.heap[gb183]? = some (.cells #[.int .i64 a1_0, .int .i64 a1_1, .int .i64 a1_2, .int .i64 a1_3] 30 (0, 0))) ∧ (w'.heap[gb201]? = some (.cells #[.int .i64 t192, .int .i64 t193, .int .i64 t194, .int .i64 t195] 31 (0, 0))) ∧ (w'.heap[gb202]? = some (.cells #[.int .i64 t196, .int .i64 t197, .int .i64 t198, .int .i64 t199] 31 (0, 0))) ∧ (w'.heap[s_]? = some (.cells #[.int .i64 0, .int .i64 0, .int .i64 0, .int .i64 0] 31 (0, 0))) ∧ (w.heap.size ≤ s_) ∧ (w.heap.size ≤ s_) ∧ (gb182 ≠ s_) ∧ (s_ ≠ gb182) ∧ (gb183 ≠ s_) ∧ (s_ ≠ gb183) ∧ (gb201 ≠ s_) ∧ (s_ ≠ gb201) ∧ (gb202 ≠ s_) ∧ (s_ ≠ gb202) ∧ (Below w.heap.size w w')) ?_ ?_
              rotate_left
              ·intro hJ1_11
               refine join_ (σ := Nat × Nat) 10 #[true, false, true, false, true, false, false, false, false, false, true, true, false, false, false] (fun s_ => [(10, .pointer (some ⟨s_.1, 0, none⟩)), (11, .pointer (some ⟨s_.2, 0, none⟩))]) (fun s_ w' => (w'.cell? ⟨gb182, 0, none⟩ = some (.int .i64 a0_0) ∧ w'.cell? ⟨gb182, 1, none⟩ = some (.int .i64 a0_1) ∧ w'.cell? ⟨gb182, 2, none⟩ = some (.int .i64 a0_2) ∧ w'.cell? ⟨gb182, 3, none⟩ = some (.int .i64 a0_3) ∧ w'.cell? ⟨gb183, 0, none⟩ = some (.int .i64 a1_0) ∧ w'.cell? ⟨gb183, 1, none⟩ = some (.int .i64 a1_1) ∧ w'.cell? ⟨gb183, 2, none⟩ = some (.int .i64 a1_2) ∧ w'.cell? ⟨gb183, 3, none⟩ = some (.int .i64 a1_3)) ∧ (w'.heap[gb182]? = some (.cells #[.int .i64 a0_0, .int .i64 a0_1, .int .i64 a0_2, .int .i64 a0_3] 30 (0, 0))) ∧ (w'.heap[gb183]? = some (.cells #[.int .i64 a1_0, .int .i64 a1_1, .int .i64 a1_2, .int .i64 a1_3] 30 (0, 0))) ∧ (w'.heap[gb201]? = some (.cells #[.int .i64 t192, .int .i64 t193, .int .i64 t194, .int .i64 t195] 31 (0, 0))) ∧ (w'.heap[gb202]? = some (.cells #[.int .i64 t196, .int .i64 t197, .int .i64 t198, .int .i64 t199] 31 (0, 0))) ∧ (w'.heap[s_.1]? = some (.cells #[.int .i64 0, .int .i64 0, .int .i64 0, .int .i64 0] 31 (0, 0))) ∧ (w'.heap[s_.2]? = some (.cells #[.int .i64 0, .int .i64 0, .int .i64 0, .int .i64 0] 31 (0, 0))) ∧ (w.heap.size ≤ s_.1) ∧ (w.heap.size ≤ s_.1) ∧ (gb182 ≠ s_.1) ∧ (s_.1 ≠ gb182) ∧ (gb183 ≠ s_.1) ∧ (s_.1 ≠ gb183) ∧ (gb201 ≠ s_.1) ∧ (s_.1 ≠ gb201) ∧ (gb202 ≠ s_.1) ∧ (s_.1 ≠ gb202) ∧ (s_.2 ≠ s_.1) ∧ (s_.1 ≠ s_.2) ∧ (w.heap.size ≤ s_.2) ∧ (w.heap.size ≤ s_.2) ∧ (gb182 ≠ s_.2) ∧ (s_.2 ≠ gb182) ∧ (gb183 ≠ s_.2) ∧ (s_.2 ≠ gb183) ∧ (gb201 ≠ s_.2) ∧ (s_.2 ≠ gb201) ∧ (gb202 ≠ s_.2) ∧ (s_.2 ≠ gb202) ∧ (Below w.heap.size w w')) ?_ ?_
               rotate_left
               ·intro hJ10_11
                refine join_ (σ := Unit) 11 #[true, true, true, false, true, false, false, false, false, false, false, false, false, false, false] (fun s_ => [(25, .agg #[.int .i64 t203, .int .i64 t204, .int .i64 t205, .int .i64 t206])]) (fun s_ w' => (w'.cell? ⟨gb182, 0, none⟩ = some (.int .i64 a0_0) ∧ w'.cell? ⟨gb182, 1, none⟩ = some (.int .i64 a0_1) ∧ w'.cell? ⟨gb182, 2, none⟩ = some (.int .i64 a0_2) ∧ w'.cell? ⟨gb182, 3, none⟩ = some (.int .i64 a0_3) ∧ w'.cell? ⟨gb183, 0, none⟩ = some (.int .i64 a1_0) ∧ w'.cell? ⟨gb183, 1, none⟩ = some (.int .i64 a1_1) ∧ w'.cell? ⟨gb183, 2, none⟩ = some (.int .i64 a1_2) ∧ w'.cell? ⟨gb183, 3, none⟩ = some (.int .i64 a1_3)) ∧ (w'.heap[gb182]? = some (.cells #[.int .i64 a0_0, .int .i64 a0_1, .int .i64 a0_2, .int .i64 a0_3] 30 (0, 0))) ∧ (w'.heap[gb183]? = some (.cells #[.int .i64 a1_0, .int .i64 a1_1, .int .i64 a1_2, .int .i64 a1_3] 30 (0, 0))) ∧ (w'.heap[gb201]? = some (.cells #[.int .i64 t192, .int .i64 t193, .int .i64 t194, .int .i64 t195] 31 (0, 0))) ∧ (w'.heap[gb202]? = some (.cells #[.int .i64 t196, .int .i64 t197, .int .i64 t198, .int .i64 t199] 31 (0, 0))) ∧ (Below w.heap.size w w')) ?_ ?_
                rotate_left
                ·intro hJ1
                 refine join_ (σ := Nat) 11 #[true, false, true, false, true, false, false, false, false, false, true, false, false, false, false] (fun s_ => [(10, .pointer (some ⟨s_, 0, none⟩))]) (fun s_ w' => (w'.cell? ⟨gb182, 0, none⟩ = some (.int .i64 a0_0) ∧ w'.cell? ⟨gb182, 1, none⟩ = some (.int .i64 a0_1) ∧ w'.cell? ⟨gb182, 2, none⟩ = some (.int .i64 a0_2) ∧ w'.cell? ⟨gb182, 3, none⟩ = some (.int .i64 a0_3) ∧ w'.cell? ⟨gb183, 0, none⟩ = some (.int .i64 a1_0) ∧ w'.cell? ⟨gb183, 1, none⟩ = some (.int .i64 a1_1) ∧ w'.cell? ⟨gb183, 2, none⟩ = some (.int .i64 a1_2) ∧ w'.cell? ⟨gb183, 3, none⟩ = some (.int .i64 a1_3)) ∧ (w'.heap[gb182]? = some (.cells #[.int .i64 a0_0, .int .i64 a0_1, .int .i64 a0_2, .int .i64 a0_3] 30 (0, 0))) ∧ (w'.heap[gb183]? = some (.cells #[.int .i64 a1_0, .int .i64 a1_1, .int .i64 a1_2, .int .i64 a1_3] 30 (0, 0))) ∧ (w'.heap[gb201]? = some (.cells #[.int .i64 t192, .int .i64 t193, .int .i64 t194, .int .i64 t195] 31 (0, 0))) ∧ (w'.heap[gb202]? = some (.cells #[.int .i64 t196, .int .i64 t197, .int .i64 t198, .int .i64 t199] 31 (0, 0))) ∧ (w'.heap[s_]? = some (.cells #[.int .i64 0, .int .i64 0, .int .i64 0, .int .i64 0] 31 (0, 0))) ∧ (w.heap.size ≤ s_) ∧ (w.heap.size ≤ s_) ∧ (gb182 ≠ s_) ∧ (s_ ≠ gb182) ∧ (gb183 ≠ s_) ∧ (s_ ≠ gb183) ∧ (gb201 ≠ s_) ∧ (s_ ≠ gb201) ∧ (gb202 ≠ s_) ∧ (s_ ≠ gb202) ∧ (Below w.heap.size w w')) ?_ ?_
                 rotate_left
                 ·intro hJ10
                  refine join_ (σ := Nat) 11 #[true, false, true, false, true, false, false, false, false, false, false, true, false, false, false] (fun s_ => [(11, .pointer (some ⟨s_, 0, none⟩))]) (fun s_ w' => (w'.cell? ⟨gb182, 0, none⟩ = some (.int .i64 a0_0) ∧ w'.cell? ⟨gb182, 1, none⟩ = some (.int .i64 a0_1) ∧ w'.cell? ⟨gb182, 2, none⟩ = some (.int .i64 a0_2) ∧ w'.cell? ⟨gb182, 3, none⟩ = some (.int .i64 a0_3) ∧ w'.cell? ⟨gb183, 0, none⟩ = some (.int .i64 a1_0) ∧ w'.cell? ⟨gb183, 1, none⟩ = some (.int .i64 a1_1) ∧ w'.cell? ⟨gb183, 2, none⟩ = some (.int .i64 a1_2) ∧ w'.cell? ⟨gb183, 3, none⟩ = some (.int .i64 a1_3)) ∧ (w'.heap[gb182]? = some (.cells #[.int .i64 a0_0, .int .i64 a0_1, .int .i64 a0_2, .int .i64 a0_3] 30 (0, 0))) ∧ (w'.heap[gb183]? = some (.cells #[.int .i64 a1_0, .int .i64 a1_1, .int .i64 a1_2, .int .i64 a1_3] 30 (0, 0))) ∧ (w'.heap[gb201]? = some (.cells #[.int .i64 t192, .int .i64 t193, .int .i64 t194, .int .i64 t195] 31 (0, 0))) ∧ (w'.heap[gb202]? = some (.cells #[.int .i64 t196, .int .i64 t197, .int .i64 t198, .int .i64 t199] 31 (0, 0))) ∧ (w'.heap[s_]? = some (.cells #[.int .i64 0, .int .i64 0, .int .i64 0, .int .i64 0] 31 (0, 0))) ∧ (w.heap.size ≤ s_) ∧ (w.heap.size ≤ s_) ∧ (gb182 ≠ s_) ∧ (s_ ≠ gb182) ∧ (gb183 ≠ s_) ∧ (s_ ≠ gb183) ∧ (gb201 ≠ s_) ∧ (s_ ≠ gb201) ∧ (gb202 ≠ s_) ∧ (s_ ≠ gb202) ∧ (Below w.heap.size w w')) ?_ ?_
                  rotate_left
                  ·intro hJ11
                   refine three_ (i := 1) (j := 10) (k := 11) (Ni := some 25) (Nj := some 10) (Nk := some 11) #[true, true, true, false, true, false, false, false, false, false, false, false, false, false, false] #[true, false, true, false, true, false, false, false, false, false, true, false, false, false, false] #[true, false, true, false, true, false, false, false, false, false, false, true, false, false, false] rfl rfl rfl rfl rfl rfl (three_of HT_.out (by kernel_rfl)) (by decide) (by decide) (by decide) (fun K hK => ?_) (fun K hK => ?_) (fun K hK => ?_)
                   ·skip
                    refine goes_ Try.func21 (by kernel_rfl) rfl #[.agg #[.int .i64 a0_0, .int .i64 a0_1, .int .i64 a0_2, .int .i64 a0_3]] (by rfl) rfl rfl (by (try simp only [List.map_toArray, List.map_cons, List.map_nil]); first | done | rfl | (simp only [List.length_drop, List.length_take]; rfl)) ?_
                    with_reducible refine (laws_toBody.calls a0_0 a0_1 a0_2 a0_3 t203 t204 t205 t206 _ A7.out).mono ?_
                    rintro e w87 ⟨rfl, hb⟩
                    refine ⟨_, rfl, ?_⟩
                    replace BK182 := z_bk BK182 hb; replace BK183 := z_bk BK183 hb; replace BK201 := z_bk BK201 hb; replace BK202 := z_bk BK202 hb; replace HB := z_bs HB hb
                    (try clear hb); (try clear hk)
                    refine hK.out _ _ ⟨z_c BK182 0, z_c BK182 1, z_c BK182 2, z_c BK182 3, z_c BK183 0, z_c BK183 1, z_c BK183 2, z_c BK183 3⟩ (fun hHeld => ?_)
                    clear hK K
                    refine norm_ (a' := ?_) ?_ ?_
                    rotate_left
                    ·show Act.put _ (some 25) _ = _
                     simp only [Act.put, sp1, sp2, sp3, i64_w, i32_w]
                     rfl
                    exact z_n (hJ1 () _ ⟨hHeld, bkw, bkw, bkw, bkw, blw⟩)
                   ·skip
                    refine box_step ?hg (N := 10) ?hd (cs := #[.int .i64 0, .int .i64 0, .int .i64 0, .int .i64 0]) (t := 31) ?hr ?_; (case hd => rfl); (case hg => rfl); (case hr => first | (go_simp; done) | (go_simp; rfl))
                    intro gb220 hg w87 hbox hb
                    have BK220 := Aside0.mk (hbox); have GW220 := z_gw HB hg; have GE220 := z_gw HB hg; have NB182_220 := z_nl BK182 hg; have NB220_182 := z_ng BK182 hg; have NB183_220 := z_nl BK183 hg; have NB220_183 := z_ng BK183 hg; have NB201_220 := z_nl BK201 hg; have NB220_201 := z_ng BK201 hg; have NB202_220 := z_nl BK202 hg; have NB220_202 := z_ng BK202 hg; replace BK182 := z_bk BK182 hb; replace BK183 := z_bk BK183 hb; replace BK201 := z_bk BK201 hb; replace BK202 := z_bk BK202 hb; replace HB := z_bs HB hb
                    clear hb hbox hg
                    refine hK.out _ _ ⟨z_c BK182 0, z_c BK182 1, z_c BK182 2, z_c BK182 3, z_c BK183 0, z_c BK183 1, z_c BK183 2, z_c BK183 3⟩ (fun hHeld => ?_)
                    clear hK K
                    refine norm_ (a' := ?_) ?_ ?_
                    rotate_left
                    ·show Act.put _ (some 10) _ = _
                     simp only [Act.put, sp1, sp2, sp3, i64_w, i32_w]
                     rfl
                    exact z_n (hJ10 (gb220) _ ⟨hHeld, bkw, bkw, bkw, bkw, bkw, GW220.out, GE220.out, NB182_220.out, NB220_182.out, NB183_220.out, NB220_183.out, NB201_220.out, NB220_201.out, NB202_220.out, NB220_202.out, blw⟩)
                   ·skip
                    refine box_step ?hg (N := 11) ?hd (cs := #[.int .i64 0, .int .i64 0, .int .i64 0, .int .i64 0]) (t := 31) ?hr ?_; (case hd => rfl); (case hg => rfl); (case hr => first | (go_simp; done) | (go_simp; rfl))
                    intro gb221 hg w87 hbox hb
                    have BK221 := Aside0.mk (hbox); have GW221 := z_gw HB hg; have GE221 := z_gw HB hg; have NB182_221 := z_nl BK182 hg; have NB221_182 := z_ng BK182 hg; have NB183_221 := z_nl BK183 hg; have NB221_183 := z_ng BK183 hg; have NB201_221 := z_nl BK201 hg; have NB221_201 := z_ng BK201 hg; have NB202_221 := z_nl BK202 hg; have NB221_202 := z_ng BK202 hg; replace BK182 := z_bk BK182 hb; replace BK183 := z_bk BK183 hb; replace BK201 := z_bk BK201 hb; replace BK202 := z_bk BK202 hb; replace HB := z_bs HB hb
                    clear hb hbox hg
                    refine hK.out _ _ ⟨z_c BK182 0, z_c BK182 1, z_c BK182 2, z_c BK182 3, z_c BK183 0, z_c BK183 1, z_c BK183 2, z_c BK183 3⟩ (fun hHeld => ?_)
                    clear hK K
                    refine norm_ (a' := ?_) ?_ ?_
                    rotate_left
                    ·show Act.put _ (some 11) _ = _
                     simp only [Act.put, sp1, sp2, sp3, i64_w, i32_w]
                     rfl
                    exact z_n (hJ11 (gb221) _ ⟨hHeld, bkw, bkw, bkw, bkw, bkw, GW221.out, GE221.out, NB182_221.out, NB221_182.out, NB183_221.out, NB221_183.out, NB201_221.out, NB221_201.out, NB202_221.out, NB221_202.out, blw⟩)
                  ·skip
                   rintro gb221 w88 ⟨hS_, h0_, h1_, h2_, h3_, h4_, h5_, h6_, h7_, h8_, h9_, h10_, h11_, h12_, h13_, h14_, h15_⟩
                   have n0_ : Aside0 (w88.heap[gb182]? = some (.cells #[.int .i64 a0_0, .int .i64 a0_1, .int .i64 a0_2, .int .i64 a0_3] 30 (0, 0))) := ⟨h0_⟩
                   have n1_ : Aside0 (w88.heap[gb183]? = some (.cells #[.int .i64 a1_0, .int .i64 a1_1, .int .i64 a1_2, .int .i64 a1_3] 30 (0, 0))) := ⟨h1_⟩
                   have n2_ : Aside0 (w88.heap[gb201]? = some (.cells #[.int .i64 t192, .int .i64 t193, .int .i64 t194, .int .i64 t195] 31 (0, 0))) := ⟨h2_⟩
                   have n3_ : Aside0 (w88.heap[gb202]? = some (.cells #[.int .i64 t196, .int .i64 t197, .int .i64 t198, .int .i64 t199] 31 (0, 0))) := ⟨h3_⟩
                   have n4_ : Aside0 (w88.heap[gb221]? = some (.cells #[.int .i64 0, .int .i64 0, .int .i64 0, .int .i64 0] 31 (0, 0))) := ⟨h4_⟩
                   have n5_ : Aside0 (w.heap.size ≤ gb221) := ⟨h5_⟩
                   have n6_ : Aside0 (w.heap.size ≤ gb221) := ⟨h6_⟩
                   have n7_ : Aside0 (gb182 ≠ gb221) := ⟨h7_⟩
                   have n8_ : Aside0 (gb221 ≠ gb182) := ⟨h8_⟩
                   have n9_ : Aside0 (gb183 ≠ gb221) := ⟨h9_⟩
                   have n10_ : Aside0 (gb221 ≠ gb183) := ⟨h10_⟩
                   have n11_ : Aside0 (gb201 ≠ gb221) := ⟨h11_⟩
                   have n12_ : Aside0 (gb221 ≠ gb201) := ⟨h12_⟩
                   have n13_ : Aside0 (gb202 ≠ gb221) := ⟨h13_⟩
                   have n14_ : Aside0 (gb221 ≠ gb202) := ⟨h14_⟩
                   have n15_ : Aside0 (Below w.heap.size w w88) := ⟨h15_⟩
                   clear BK182
                   clear BK183
                   clear BK201
                   clear BK202
                   clear HB
                   clear h0_ h1_ h2_ h3_ h4_ h5_ h6_ h7_ h8_ h9_ h10_ h11_ h12_ h13_ h14_ h15_
                   have BK182 := n0_
                   have BK183 := n1_
                   have BK201 := n2_
                   have BK202 := n3_
                   have BK221 := n4_
                   have GW221 := n5_
                   have GE221 := n6_
                   have NB182_221 := n7_
                   have NB221_182 := n8_
                   have NB183_221 := n9_
                   have NB221_183 := n10_
                   have NB201_221 := n11_
                   have NB221_201 := n12_
                   have NB202_221 := n13_
                   have NB221_202 := n14_
                   have HB := n15_
                   clear n0_ n1_ n2_ n3_ n4_ n5_ n6_ n7_ n8_ n9_ n10_ n11_ n12_ n13_ n14_ n15_
                   have hHeld : w88.cell? ⟨gb182, 0, none⟩ = some (.int .i64 a0_0) ∧ w88.cell? ⟨gb182, 1, none⟩ = some (.int .i64 a0_1) ∧ w88.cell? ⟨gb182, 2, none⟩ = some (.int .i64 a0_2) ∧ w88.cell? ⟨gb182, 3, none⟩ = some (.int .i64 a0_3) ∧ w88.cell? ⟨gb183, 0, none⟩ = some (.int .i64 a1_0) ∧ w88.cell? ⟨gb183, 1, none⟩ = some (.int .i64 a1_1) ∧ w88.cell? ⟨gb183, 2, none⟩ = some (.int .i64 a1_2) ∧ w88.cell? ⟨gb183, 3, none⟩ = some (.int .i64 a1_3) := hS_
                   refine norm_ (a' := ?_) ?_ ?_
                   rotate_left
                   ·simp only [putAll, Act.put, List.setIfInBounds_toArray, List.set_cons_zero, List.set_cons_succ]
                    rfl
                   refine two_ (i := 1) (j := 10) (Ni := some 25) (Nj := some 10) #[true, true, true, false, true, false, false, false, false, false, false, true, false, false, false] #[true, false, true, false, true, false, false, false, false, false, true, true, false, false, false] rfl rfl rfl rfl (two_of HT_.out (by kernel_rfl)) (by decide) (by decide) (fun K hK => ?_) (fun K hK => ?_)
                   ·skip
                    refine goes_ Try.func21 (by kernel_rfl) rfl #[.agg #[.int .i64 a0_0, .int .i64 a0_1, .int .i64 a0_2, .int .i64 a0_3]] (by rfl) rfl rfl (by (try simp only [List.map_toArray, List.map_cons, List.map_nil]); first | done | rfl | (simp only [List.length_drop, List.length_take]; rfl)) ?_
                    with_reducible refine (laws_toBody.calls a0_0 a0_1 a0_2 a0_3 t203 t204 t205 t206 _ A7.out).mono ?_
                    rintro e w89 ⟨rfl, hb⟩
                    refine ⟨_, rfl, ?_⟩
                    replace BK182 := z_bk BK182 hb; replace BK183 := z_bk BK183 hb; replace BK201 := z_bk BK201 hb; replace BK202 := z_bk BK202 hb; replace BK221 := z_bk BK221 hb; replace HB := z_bs HB hb
                    (try clear hb); (try clear hk)
                    refine hK.out _ _ ⟨z_c BK182 0, z_c BK182 1, z_c BK182 2, z_c BK182 3, z_c BK183 0, z_c BK183 1, z_c BK183 2, z_c BK183 3⟩ (fun hHeld => ?_)
                    clear hK K
                    refine norm_ (a' := ?_) ?_ ?_
                    rotate_left
                    ·show Act.put _ (some 25) _ = _
                     simp only [Act.put, sp1, sp2, sp3, i64_w, i32_w]
                     rfl
                    exact z_n (hJ1_11 (gb221) _ ⟨hHeld, bkw, bkw, bkw, bkw, bkw, GW221.out, GE221.out, NB182_221.out, NB221_182.out, NB183_221.out, NB221_183.out, NB201_221.out, NB221_201.out, NB202_221.out, NB221_202.out, blw⟩)
                   ·skip
                    refine box_step ?hg (N := 10) ?hd (cs := #[.int .i64 0, .int .i64 0, .int .i64 0, .int .i64 0]) (t := 31) ?hr ?_; (case hd => rfl); (case hg => rfl); (case hr => first | (go_simp; done) | (go_simp; rfl))
                    intro gb220 hg w89 hbox hb
                    have BK220 := Aside0.mk (hbox); have GW220 := z_gw HB hg; have GE220 := z_gw HB hg; have NB182_220 := z_nl BK182 hg; have NB220_182 := z_ng BK182 hg; have NB183_220 := z_nl BK183 hg; have NB220_183 := z_ng BK183 hg; have NB201_220 := z_nl BK201 hg; have NB220_201 := z_ng BK201 hg; have NB202_220 := z_nl BK202 hg; have NB220_202 := z_ng BK202 hg; have NB221_220 := z_nl BK221 hg; have NB220_221 := z_ng BK221 hg; replace BK182 := z_bk BK182 hb; replace BK183 := z_bk BK183 hb; replace BK201 := z_bk BK201 hb; replace BK202 := z_bk BK202 hb; replace BK221 := z_bk BK221 hb; replace HB := z_bs HB hb
                    clear hb hbox hg
                    refine hK.out _ _ ⟨z_c BK182 0, z_c BK182 1, z_c BK182 2, z_c BK182 3, z_c BK183 0, z_c BK183 1, z_c BK183 2, z_c BK183 3⟩ (fun hHeld => ?_)
                    clear hK K
                    refine norm_ (a' := ?_) ?_ ?_
                    rotate_left
                    ·show Act.put _ (some 10) _ = _
                     simp only [Act.put, sp1, sp2, sp3, i64_w, i32_w]
                     rfl
                    exact z_n (hJ10_11 (gb220, gb221) _ ⟨hHeld, bkw, bkw, bkw, bkw, bkw, bkw, GW220.out, GE220.out, NB182_220.out, NB220_182.out, NB183_220.out, NB220_183.out, NB201_220.out, NB220_201.out, NB202_220.out, NB220_202.out, NB221_220.out, NB220_221.out, GW221.out, GE221.out, NB182_221.out, NB221_182.out, NB183_221.out, NB221_183.out, NB201_221.out, NB221_201.out, NB202_221.out, NB221_202.out, blw⟩)
                 ·skip
                  rintro gb220 w88 ⟨hS_, h0_, h1_, h2_, h3_, h4_, h5_, h6_, h7_, h8_, h9_, h10_, h11_, h12_, h13_, h14_, h15_⟩
                  have n0_ : Aside0 (w88.heap[gb182]? = some (.cells #[.int .i64 a0_0, .int .i64 a0_1, .int .i64 a0_2, .int .i64 a0_3] 30 (0, 0))) := ⟨h0_⟩
                  have n1_ : Aside0 (w88.heap[gb183]? = some (.cells #[.int .i64 a1_0, .int .i64 a1_1, .int .i64 a1_2, .int .i64 a1_3] 30 (0, 0))) := ⟨h1_⟩
                  have n2_ : Aside0 (w88.heap[gb201]? = some (.cells #[.int .i64 t192, .int .i64 t193, .int .i64 t194, .int .i64 t195] 31 (0, 0))) := ⟨h2_⟩
                  have n3_ : Aside0 (w88.heap[gb202]? = some (.cells #[.int .i64 t196, .int .i64 t197, .int .i64 t198, .int .i64 t199] 31 (0, 0))) := ⟨h3_⟩
                  have n4_ : Aside0 (w88.heap[gb220]? = some (.cells #[.int .i64 0, .int .i64 0, .int .i64 0, .int .i64 0] 31 (0, 0))) := ⟨h4_⟩
                  have n5_ : Aside0 (w.heap.size ≤ gb220) := ⟨h5_⟩
                  have n6_ : Aside0 (w.heap.size ≤ gb220) := ⟨h6_⟩
                  have n7_ : Aside0 (gb182 ≠ gb220) := ⟨h7_⟩
                  have n8_ : Aside0 (gb220 ≠ gb182) := ⟨h8_⟩
                  have n9_ : Aside0 (gb183 ≠ gb220) := ⟨h9_⟩
                  have n10_ : Aside0 (gb220 ≠ gb183) := ⟨h10_⟩
                  have n11_ : Aside0 (gb201 ≠ gb220) := ⟨h11_⟩
                  have n12_ : Aside0 (gb220 ≠ gb201) := ⟨h12_⟩
                  have n13_ : Aside0 (gb202 ≠ gb220) := ⟨h13_⟩
                  have n14_ : Aside0 (gb220 ≠ gb202) := ⟨h14_⟩
                  have n15_ : Aside0 (Below w.heap.size w w88) := ⟨h15_⟩
                  clear BK182
                  clear BK183
                  clear BK201
                  clear BK202
                  clear HB
                  clear h0_ h1_ h2_ h3_ h4_ h5_ h6_ h7_ h8_ h9_ h10_ h11_ h12_ h13_ h14_ h15_
                  have BK182 := n0_
                  have BK183 := n1_
                  have BK201 := n2_
                  have BK202 := n3_
                  have BK220 := n4_
                  have GW220 := n5_
                  have GE220 := n6_
                  have NB182_220 := n7_
                  have NB220_182 := n8_
                  have NB183_220 := n9_
                  have NB220_183 := n10_
                  have NB201_220 := n11_
                  have NB220_201 := n12_
                  have NB202_220 := n13_
                  have NB220_202 := n14_
                  have HB := n15_
                  clear n0_ n1_ n2_ n3_ n4_ n5_ n6_ n7_ n8_ n9_ n10_ n11_ n12_ n13_ n14_ n15_
                  have hHeld : w88.cell? ⟨gb182, 0, none⟩ = some (.int .i64 a0_0) ∧ w88.cell? ⟨gb182, 1, none⟩ = some (.int .i64 a0_1) ∧ w88.cell? ⟨gb182, 2, none⟩ = some (.int .i64 a0_2) ∧ w88.cell? ⟨gb182, 3, none⟩ = some (.int .i64 a0_3) ∧ w88.cell? ⟨gb183, 0, none⟩ = some (.int .i64 a1_0) ∧ w88.cell? ⟨gb183, 1, none⟩ = some (.int .i64 a1_1) ∧ w88.cell? ⟨gb183, 2, none⟩ = some (.int .i64 a1_2) ∧ w88.cell? ⟨gb183, 3, none⟩ = some (.int .i64 a1_3) := hS_
                  refine norm_ (a' := ?_) ?_ ?_
                  rotate_left
                  ·simp only [putAll, Act.put, List.setIfInBounds_toArray, List.set_cons_zero, List.set_cons_succ]
                   rfl
                  refine two_ (i := 1) (j := 11) (Ni := some 25) (Nj := some 11) #[true, true, true, false, true, false, false, false, false, false, true, false, false, false, false] #[true, false, true, false, true, false, false, false, false, false, true, true, false, false, false] rfl rfl rfl rfl (two_of HT_.out (by kernel_rfl)) (by decide) (by decide) (fun K hK => ?_) (fun K hK => ?_)
                  ·skip
                   refine goes_ Try.func21 (by kernel_rfl) rfl #[.agg #[.int .i64 a0_0, .int .i64 a0_1, .int .i64 a0_2, .int .i64 a0_3]] (by rfl) rfl rfl (by (try simp only [List.map_toArray, List.map_cons, List.map_nil]); first | done | rfl | (simp only [List.length_drop, List.length_take]; rfl)) ?_
                   with_reducible refine (laws_toBody.calls a0_0 a0_1 a0_2 a0_3 t203 t204 t205 t206 _ A7.out).mono ?_
                   rintro e w89 ⟨rfl, hb⟩
                   refine ⟨_, rfl, ?_⟩
                   replace BK182 := z_bk BK182 hb; replace BK183 := z_bk BK183 hb; replace BK201 := z_bk BK201 hb; replace BK202 := z_bk BK202 hb; replace BK220 := z_bk BK220 hb; replace HB := z_bs HB hb
                   (try clear hb); (try clear hk)
                   refine hK.out _ _ ⟨z_c BK182 0, z_c BK182 1, z_c BK182 2, z_c BK182 3, z_c BK183 0, z_c BK183 1, z_c BK183 2, z_c BK183 3⟩ (fun hHeld => ?_)
                   clear hK K
                   refine norm_ (a' := ?_) ?_ ?_
                   rotate_left
                   ·show Act.put _ (some 25) _ = _
                    simp only [Act.put, sp1, sp2, sp3, i64_w, i32_w]
                    rfl
                   exact z_n (hJ1_10 (gb220) _ ⟨hHeld, bkw, bkw, bkw, bkw, bkw, GW220.out, GE220.out, NB182_220.out, NB220_182.out, NB183_220.out, NB220_183.out, NB201_220.out, NB220_201.out, NB202_220.out, NB220_202.out, blw⟩)
                  ·skip
                   refine box_step ?hg (N := 11) ?hd (cs := #[.int .i64 0, .int .i64 0, .int .i64 0, .int .i64 0]) (t := 31) ?hr ?_; (case hd => rfl); (case hg => rfl); (case hr => first | (go_simp; done) | (go_simp; rfl))
                   intro gb221 hg w89 hbox hb
                   have BK221 := Aside0.mk (hbox); have GW221 := z_gw HB hg; have GE221 := z_gw HB hg; have NB182_221 := z_nl BK182 hg; have NB221_182 := z_ng BK182 hg; have NB183_221 := z_nl BK183 hg; have NB221_183 := z_ng BK183 hg; have NB201_221 := z_nl BK201 hg; have NB221_201 := z_ng BK201 hg; have NB202_221 := z_nl BK202 hg; have NB221_202 := z_ng BK202 hg; have NB220_221 := z_nl BK220 hg; have NB221_220 := z_ng BK220 hg; replace BK182 := z_bk BK182 hb; replace BK183 := z_bk BK183 hb; replace BK201 := z_bk BK201 hb; replace BK202 := z_bk BK202 hb; replace BK220 := z_bk BK220 hb; replace HB := z_bs HB hb
                   clear hb hbox hg
                   refine hK.out _ _ ⟨z_c BK182 0, z_c BK182 1, z_c BK182 2, z_c BK182 3, z_c BK183 0, z_c BK183 1, z_c BK183 2, z_c BK183 3⟩ (fun hHeld => ?_)
                   clear hK K
                   refine norm_ (a' := ?_) ?_ ?_
                   rotate_left
                   ·show Act.put _ (some 11) _ = _
                    simp only [Act.put, sp1, sp2, sp3, i64_w, i32_w]
                    rfl
                   exact z_n (hJ10_11 (gb220, gb221) _ ⟨hHeld, bkw, bkw, bkw, bkw, bkw, bkw, GW220.out, GE220.out, NB182_220.out, NB220_182.out, NB183_220.out, NB220_183.out, NB201_220.out, NB220_201.out, NB202_220.out, NB220_202.out, NB221_220.out, NB220_221.out, GW221.out, GE221.out, NB182_221.out, NB221_182.out, NB183_221.out, NB221_183.out, NB201_221.out, NB221_201.out, NB202_221.out, NB221_202.out, blw⟩)
                ·skip
                 rintro _ w88 ⟨hS_, h0_, h1_, h2_, h3_, h4_⟩
                 have n0_ : Aside0 (w88.heap[gb182]? = some (.cells #[.int .i64 a0_0, .int .i64 a0_1, .int .i64 a0_2, .int .i64 a0_3] 30 (0, 0))) := ⟨h0_⟩
                 have n1_ : Aside0 (w88.heap[gb183]? = some (.cells #[.int .i64 a1_0, .int .i64 a1_1, .int .i64 a1_2, .int .i64 a1_3] 30 (0, 0))) := ⟨h1_⟩
                 have n2_ : Aside0 (w88.heap[gb201]? = some (.cells #[.int .i64 t192, .int .i64 t193, .int .i64 t194, .int .i64 t195] 31 (0, 0))) := ⟨h2_⟩
                 have n3_ : Aside0 (w88.heap[gb202]? = some (.cells #[.int .i64 t196, .int .i64 t197, .int .i64 t198, .int .i64 t199] 31 (0, 0))) := ⟨h3_⟩
                 have n4_ : Aside0 (Below w.heap.size w w88) := ⟨h4_⟩
                 clear BK182
                 clear BK183
                 clear BK201
                 clear BK202
                 clear HB
                 clear h0_ h1_ h2_ h3_ h4_
                 have BK182 := n0_
                 have BK183 := n1_
                 have BK201 := n2_
                 have BK202 := n3_
                 have HB := n4_
                 clear n0_ n1_ n2_ n3_ n4_
                 have hHeld : w88.cell? ⟨gb182, 0, none⟩ = some (.int .i64 a0_0) ∧ w88.cell? ⟨gb182, 1, none⟩ = some (.int .i64 a0_1) ∧ w88.cell? ⟨gb182, 2, none⟩ = some (.int .i64 a0_2) ∧ w88.cell? ⟨gb182, 3, none⟩ = some (.int .i64 a0_3) ∧ w88.cell? ⟨gb183, 0, none⟩ = some (.int .i64 a1_0) ∧ w88.cell? ⟨gb183, 1, none⟩ = some (.int .i64 a1_1) ∧ w88.cell? ⟨gb183, 2, none⟩ = some (.int .i64 a1_2) ∧ w88.cell? ⟨gb183, 3, none⟩ = some (.int .i64 a1_3) := hS_
                 refine norm_ (a' := ?_) ?_ ?_
                 rotate_left
                 ·simp only [putAll, Act.put, List.setIfInBounds_toArray, List.set_cons_zero, List.set_cons_succ]
                  rfl
                 refine three_ (i := 3) (j := 10) (k := 11) (Ni := some 27) (Nj := some 10) (Nk := some 11) #[true, true, true, true, true, false, false, false, false, false, false, false, false, false, false] #[true, true, true, false, true, false, false, false, false, false, true, false, false, false, false] #[true, true, true, false, true, false, false, false, false, false, false, true, false, false, false] rfl rfl rfl rfl rfl rfl (three_of HT_.out (by kernel_rfl)) (by decide) (by decide) (by decide) (fun K hK => ?_) (fun K hK => ?_) (fun K hK => ?_)
                 ·skip
                  refine goes_ Try.func21 (by kernel_rfl) rfl #[.agg #[.int .i64 a1_0, .int .i64 a1_1, .int .i64 a1_2, .int .i64 a1_3]] (by rfl) rfl rfl (by (try simp only [List.map_toArray, List.map_cons, List.map_nil]); first | done | rfl | (simp only [List.length_drop, List.length_take]; rfl)) ?_
                  with_reducible refine (laws_toBody.calls a1_0 a1_1 a1_2 a1_3 t207 t208 t209 t210 _ A8.out).mono ?_
                  rintro e w89 ⟨rfl, hb⟩
                  refine ⟨_, rfl, ?_⟩
                  replace BK182 := z_bk BK182 hb; replace BK183 := z_bk BK183 hb; replace BK201 := z_bk BK201 hb; replace BK202 := z_bk BK202 hb; replace HB := z_bs HB hb
                  (try clear hb); (try clear hk)
                  refine hK.out _ _ ⟨z_c BK182 0, z_c BK182 1, z_c BK182 2, z_c BK182 3, z_c BK183 0, z_c BK183 1, z_c BK183 2, z_c BK183 3⟩ (fun hHeld => ?_)
                  clear hK K
                  refine norm_ (a' := ?_) ?_ ?_
                  rotate_left
                  ·show Act.put _ (some 27) _ = _
                   simp only [Act.put, sp1, sp2, sp3, i64_w, i32_w]
                   rfl
                  exact z_n (hJ1_3 () _ ⟨hHeld, bkw, bkw, bkw, bkw, blw⟩)
                 ·skip
                  refine box_step ?hg (N := 10) ?hd (cs := #[.int .i64 0, .int .i64 0, .int .i64 0, .int .i64 0]) (t := 31) ?hr ?_; (case hd => rfl); (case hg => rfl); (case hr => first | (go_simp; done) | (go_simp; rfl))
                  intro gb220 hg w89 hbox hb
                  have BK220 := Aside0.mk (hbox); have GW220 := z_gw HB hg; have GE220 := z_gw HB hg; have NB182_220 := z_nl BK182 hg; have NB220_182 := z_ng BK182 hg; have NB183_220 := z_nl BK183 hg; have NB220_183 := z_ng BK183 hg; have NB201_220 := z_nl BK201 hg; have NB220_201 := z_ng BK201 hg; have NB202_220 := z_nl BK202 hg; have NB220_202 := z_ng BK202 hg; replace BK182 := z_bk BK182 hb; replace BK183 := z_bk BK183 hb; replace BK201 := z_bk BK201 hb; replace BK202 := z_bk BK202 hb; replace HB := z_bs HB hb
                  clear hb hbox hg
                  refine hK.out _ _ ⟨z_c BK182 0, z_c BK182 1, z_c BK182 2, z_c BK182 3, z_c BK183 0, z_c BK183 1, z_c BK183 2, z_c BK183 3⟩ (fun hHeld => ?_)
                  clear hK K
                  refine norm_ (a' := ?_) ?_ ?_
                  rotate_left
                  ·show Act.put _ (some 10) _ = _
                   simp only [Act.put, sp1, sp2, sp3, i64_w, i32_w]
                   rfl
                  exact z_n (hJ1_10 (gb220) _ ⟨hHeld, bkw, bkw, bkw, bkw, bkw, GW220.out, GE220.out, NB182_220.out, NB220_182.out, NB183_220.out, NB220_183.out, NB201_220.out, NB220_201.out, NB202_220.out, NB220_202.out, blw⟩)
                 ·skip
                  refine box_step ?hg (N := 11) ?hd (cs := #[.int .i64 0, .int .i64 0, .int .i64 0, .int .i64 0]) (t := 31) ?hr ?_; (case hd => rfl); (case hg => rfl); (case hr => first | (go_simp; done) | (go_simp; rfl))
                  intro gb221 hg w89 hbox hb
                  have BK221 := Aside0.mk (hbox); have GW221 := z_gw HB hg; have GE221 := z_gw HB hg; have NB182_221 := z_nl BK182 hg; have NB221_182 := z_ng BK182 hg; have NB183_221 := z_nl BK183 hg; have NB221_183 := z_ng BK183 hg; have NB201_221 := z_nl BK201 hg; have NB221_201 := z_ng BK201 hg; have NB202_221 := z_nl BK202 hg; have NB221_202 := z_ng BK202 hg; replace BK182 := z_bk BK182 hb; replace BK183 := z_bk BK183 hb; replace BK201 := z_bk BK201 hb; replace BK202 := z_bk BK202 hb; replace HB := z_bs HB hb
                  clear hb hbox hg
                  refine hK.out _ _ ⟨z_c BK182 0, z_c BK182 1, z_c BK182 2, z_c BK182 3, z_c BK183 0, z_c BK183 1, z_c BK183 2, z_c BK183 3⟩ (fun hHeld => ?_)
                  clear hK K
                  refine norm_ (a' := ?_) ?_ ?_
                  rotate_left
                  ·show Act.put _ (some 11) _ = _
                   simp only [Act.put, sp1, sp2, sp3, i64_w, i32_w]
                   rfl
                  exact z_n (hJ1_11 (gb221) _ ⟨hHeld, bkw, bkw, bkw, bkw, bkw, GW221.out, GE221.out, NB182_221.out, NB221_182.out, NB183_221.out, NB221_183.out, NB201_221.out, NB221_201.out, NB202_221.out, NB221_202.out, blw⟩)
               ·skip
                rintro ⟨gb220, gb221⟩ w89 ⟨hS_, h0_, h1_, h2_, h3_, h4_, h5_, h6_, h7_, h8_, h9_, h10_, h11_, h12_, h13_, h14_, h15_, h16_, h17_, h18_, h19_, h20_, h21_, h22_, h23_, h24_, h25_, h26_, h27_, h28_⟩
                have n0_ : Aside0 (w89.heap[gb182]? = some (.cells #[.int .i64 a0_0, .int .i64 a0_1, .int .i64 a0_2, .int .i64 a0_3] 30 (0, 0))) := ⟨h0_⟩
                have n1_ : Aside0 (w89.heap[gb183]? = some (.cells #[.int .i64 a1_0, .int .i64 a1_1, .int .i64 a1_2, .int .i64 a1_3] 30 (0, 0))) := ⟨h1_⟩
                have n2_ : Aside0 (w89.heap[gb201]? = some (.cells #[.int .i64 t192, .int .i64 t193, .int .i64 t194, .int .i64 t195] 31 (0, 0))) := ⟨h2_⟩
                have n3_ : Aside0 (w89.heap[gb202]? = some (.cells #[.int .i64 t196, .int .i64 t197, .int .i64 t198, .int .i64 t199] 31 (0, 0))) := ⟨h3_⟩
                have n4_ : Aside0 (w89.heap[gb220]? = some (.cells #[.int .i64 0, .int .i64 0, .int .i64 0, .int .i64 0] 31 (0, 0))) := ⟨h4_⟩
                have n5_ : Aside0 (w89.heap[gb221]? = some (.cells #[.int .i64 0, .int .i64 0, .int .i64 0, .int .i64 0] 31 (0, 0))) := ⟨h5_⟩
                have n6_ : Aside0 (w.heap.size ≤ gb220) := ⟨h6_⟩
                have n7_ : Aside0 (w.heap.size ≤ gb220) := ⟨h7_⟩
                have n8_ : Aside0 (gb182 ≠ gb220) := ⟨h8_⟩
                have n9_ : Aside0 (gb220 ≠ gb182) := ⟨h9_⟩
                have n10_ : Aside0 (gb183 ≠ gb220) := ⟨h10_⟩
                have n11_ : Aside0 (gb220 ≠ gb183) := ⟨h11_⟩
                have n12_ : Aside0 (gb201 ≠ gb220) := ⟨h12_⟩
                have n13_ : Aside0 (gb220 ≠ gb201) := ⟨h13_⟩
                have n14_ : Aside0 (gb202 ≠ gb220) := ⟨h14_⟩
                have n15_ : Aside0 (gb220 ≠ gb202) := ⟨h15_⟩
                have n16_ : Aside0 (gb221 ≠ gb220) := ⟨h16_⟩
                have n17_ : Aside0 (gb220 ≠ gb221) := ⟨h17_⟩
                have n18_ : Aside0 (w.heap.size ≤ gb221) := ⟨h18_⟩
                have n19_ : Aside0 (w.heap.size ≤ gb221) := ⟨h19_⟩
                have n20_ : Aside0 (gb182 ≠ gb221) := ⟨h20_⟩
                have n21_ : Aside0 (gb221 ≠ gb182) := ⟨h21_⟩
                have n22_ : Aside0 (gb183 ≠ gb221) := ⟨h22_⟩
                have n23_ : Aside0 (gb221 ≠ gb183) := ⟨h23_⟩
                have n24_ : Aside0 (gb201 ≠ gb221) := ⟨h24_⟩
                have n25_ : Aside0 (gb221 ≠ gb201) := ⟨h25_⟩
                have n26_ : Aside0 (gb202 ≠ gb221) := ⟨h26_⟩
                have n27_ : Aside0 (gb221 ≠ gb202) := ⟨h27_⟩
                have n28_ : Aside0 (Below w.heap.size w w89) := ⟨h28_⟩
                clear BK182
                clear BK183
                clear BK201
                clear BK202
                clear HB
                clear h0_ h1_ h2_ h3_ h4_ h5_ h6_ h7_ h8_ h9_ h10_ h11_ h12_ h13_ h14_ h15_ h16_ h17_ h18_ h19_ h20_ h21_ h22_ h23_ h24_ h25_ h26_ h27_ h28_
                have BK182 := n0_
                have BK183 := n1_
                have BK201 := n2_
                have BK202 := n3_
                have BK220 := n4_
                have BK221 := n5_
                have GW220 := n6_
                have GE220 := n7_
                have NB182_220 := n8_
                have NB220_182 := n9_
                have NB183_220 := n10_
                have NB220_183 := n11_
                have NB201_220 := n12_
                have NB220_201 := n13_
                have NB202_220 := n14_
                have NB220_202 := n15_
                have NB221_220 := n16_
                have NB220_221 := n17_
                have GW221 := n18_
                have GE221 := n19_
                have NB182_221 := n20_
                have NB221_182 := n21_
                have NB183_221 := n22_
                have NB221_183 := n23_
                have NB201_221 := n24_
                have NB221_201 := n25_
                have NB202_221 := n26_
                have NB221_202 := n27_
                have HB := n28_
                clear n0_ n1_ n2_ n3_ n4_ n5_ n6_ n7_ n8_ n9_ n10_ n11_ n12_ n13_ n14_ n15_ n16_ n17_ n18_ n19_ n20_ n21_ n22_ n23_ n24_ n25_ n26_ n27_ n28_
                have hHeld : w89.cell? ⟨gb182, 0, none⟩ = some (.int .i64 a0_0) ∧ w89.cell? ⟨gb182, 1, none⟩ = some (.int .i64 a0_1) ∧ w89.cell? ⟨gb182, 2, none⟩ = some (.int .i64 a0_2) ∧ w89.cell? ⟨gb182, 3, none⟩ = some (.int .i64 a0_3) ∧ w89.cell? ⟨gb183, 0, none⟩ = some (.int .i64 a1_0) ∧ w89.cell? ⟨gb183, 1, none⟩ = some (.int .i64 a1_1) ∧ w89.cell? ⟨gb183, 2, none⟩ = some (.int .i64 a1_2) ∧ w89.cell? ⟨gb183, 3, none⟩ = some (.int .i64 a1_3) := hS_
                refine norm_ (a' := ?_) ?_ ?_
                rotate_left
                ·simp only [putAll, Act.put, List.setIfInBounds_toArray, List.set_cons_zero, List.set_cons_succ]
                 rfl
                refine one_ (i := 1) (N := some 25) #[true, true, true, false, true, false, false, false, false, false, true, true, false, false, false] rfl rfl (one_of HT_.out (by kernel_rfl)) (by decide) (fun K hK => ?_)
                refine goes_ Try.func21 (by kernel_rfl) rfl #[.agg #[.int .i64 a0_0, .int .i64 a0_1, .int .i64 a0_2, .int .i64 a0_3]] (by rfl) rfl rfl (by (try simp only [List.map_toArray, List.map_cons, List.map_nil]); first | done | rfl | (simp only [List.length_drop, List.length_take]; rfl)) ?_
                with_reducible refine (laws_toBody.calls a0_0 a0_1 a0_2 a0_3 t203 t204 t205 t206 _ A7.out).mono ?_
                rintro e w90 ⟨rfl, hb⟩
                refine ⟨_, rfl, ?_⟩
                replace BK182 := z_bk BK182 hb; replace BK183 := z_bk BK183 hb; replace BK201 := z_bk BK201 hb; replace BK202 := z_bk BK202 hb; replace BK220 := z_bk BK220 hb; replace BK221 := z_bk BK221 hb; replace HB := z_bs HB hb
                (try clear hb); (try clear hk)
                refine hK.out _ _ ⟨z_c BK182 0, z_c BK182 1, z_c BK182 2, z_c BK182 3, z_c BK183 0, z_c BK183 1, z_c BK183 2, z_c BK183 3⟩ (fun hHeld => ?_)
                clear hK K
                refine norm_ (a' := ?_) ?_ ?_
                rotate_left
                ·show Act.put _ (some 25) _ = _
                 simp only [Act.put, sp1, sp2, sp3, i64_w, i32_w]
                 rfl
                exact z_n (hJ1_10_11 (gb220, gb221) _ ⟨hHeld, bkw, bkw, bkw, bkw, bkw, bkw, GW220.out, GE220.out, NB182_220.out, NB220_182.out, NB183_220.out, NB220_183.out, NB201_220.out, NB220_201.out, NB202_220.out, NB220_202.out, NB221_220.out, NB220_221.out, GW221.out, GE221.out, NB182_221.out, NB221_182.out, NB183_221.out, NB221_183.out, NB201_221.out, NB221_201.out, NB202_221.out, NB221_202.out, blw⟩)
              ·skip
               rintro gb221 w89 ⟨hS_, h0_, h1_, h2_, h3_, h4_, h5_, h6_, h7_, h8_, h9_, h10_, h11_, h12_, h13_, h14_, h15_⟩
               have n0_ : Aside0 (w89.heap[gb182]? = some (.cells #[.int .i64 a0_0, .int .i64 a0_1, .int .i64 a0_2, .int .i64 a0_3] 30 (0, 0))) := ⟨h0_⟩
               have n1_ : Aside0 (w89.heap[gb183]? = some (.cells #[.int .i64 a1_0, .int .i64 a1_1, .int .i64 a1_2, .int .i64 a1_3] 30 (0, 0))) := ⟨h1_⟩
               have n2_ : Aside0 (w89.heap[gb201]? = some (.cells #[.int .i64 t192, .int .i64 t193, .int .i64 t194, .int .i64 t195] 31 (0, 0))) := ⟨h2_⟩
               have n3_ : Aside0 (w89.heap[gb202]? = some (.cells #[.int .i64 t196, .int .i64 t197, .int .i64 t198, .int .i64 t199] 31 (0, 0))) := ⟨h3_⟩
               have n4_ : Aside0 (w89.heap[gb221]? = some (.cells #[.int .i64 0, .int .i64 0, .int .i64 0, .int .i64 0] 31 (0, 0))) := ⟨h4_⟩
               have n5_ : Aside0 (w.heap.size ≤ gb221) := ⟨h5_⟩
               have n6_ : Aside0 (w.heap.size ≤ gb221) := ⟨h6_⟩
               have n7_ : Aside0 (gb182 ≠ gb221) := ⟨h7_⟩
               have n8_ : Aside0 (gb221 ≠ gb182) := ⟨h8_⟩
               have n9_ : Aside0 (gb183 ≠ gb221) := ⟨h9_⟩
               have n10_ : Aside0 (gb221 ≠ gb183) := ⟨h10_⟩
               have n11_ : Aside0 (gb201 ≠ gb221) := ⟨h11_⟩
               have n12_ : Aside0 (gb221 ≠ gb201) := ⟨h12_⟩
               have n13_ : Aside0 (gb202 ≠ gb221) := ⟨h13_⟩
               have n14_ : Aside0 (gb221 ≠ gb202) := ⟨h14_⟩
               have n15_ : Aside0 (Below w.heap.size w w89) := ⟨h15_⟩
               clear BK182
               clear BK183
               clear BK201
               clear BK202
               clear HB
               clear h0_ h1_ h2_ h3_ h4_ h5_ h6_ h7_ h8_ h9_ h10_ h11_ h12_ h13_ h14_ h15_
               have BK182 := n0_
               have BK183 := n1_
               have BK201 := n2_
               have BK202 := n3_
               have BK221 := n4_
               have GW221 := n5_
               have GE221 := n6_
               have NB182_221 := n7_
               have NB221_182 := n8_
               have NB183_221 := n9_
               have NB221_183 := n10_
               have NB201_221 := n11_
               have NB221_201 := n12_
               have NB202_221 := n13_
               have NB221_202 := n14_
               have HB := n15_
               clear n0_ n1_ n2_ n3_ n4_ n5_ n6_ n7_ n8_ n9_ n10_ n11_ n12_ n13_ n14_ n15_
               have hHeld : w89.cell? ⟨gb182, 0, none⟩ = some (.int .i64 a0_0) ∧ w89.cell? ⟨gb182, 1, none⟩ = some (.int .i64 a0_1) ∧ w89.cell? ⟨gb182, 2, none⟩ = some (.int .i64 a0_2) ∧ w89.cell? ⟨gb182, 3, none⟩ = some (.int .i64 a0_3) ∧ w89.cell? ⟨gb183, 0, none⟩ = some (.int .i64 a1_0) ∧ w89.cell? ⟨gb183, 1, none⟩ = some (.int .i64 a1_1) ∧ w89.cell? ⟨gb183, 2, none⟩ = some (.int .i64 a1_2) ∧ w89.cell? ⟨gb183, 3, none⟩ = some (.int .i64 a1_3) := hS_
               refine norm_ (a' := ?_) ?_ ?_
               rotate_left
               ·simp only [putAll, Act.put, List.setIfInBounds_toArray, List.set_cons_zero, List.set_cons_succ]
                rfl
               refine two_ (i := 3) (j := 10) (Ni := some 27) (Nj := some 10) #[true, true, true, true, true, false, false, false, false, false, false, true, false, false, false] #[true, true, true, false, true, false, false, false, false, false, true, true, false, false, false] rfl rfl rfl rfl (two_of HT_.out (by kernel_rfl)) (by decide) (by decide) (fun K hK => ?_) (fun K hK => ?_)
               ·skip
                refine goes_ Try.func21 (by kernel_rfl) rfl #[.agg #[.int .i64 a1_0, .int .i64 a1_1, .int .i64 a1_2, .int .i64 a1_3]] (by rfl) rfl rfl (by (try simp only [List.map_toArray, List.map_cons, List.map_nil]); first | done | rfl | (simp only [List.length_drop, List.length_take]; rfl)) ?_
                with_reducible refine (laws_toBody.calls a1_0 a1_1 a1_2 a1_3 t207 t208 t209 t210 _ A8.out).mono ?_
                rintro e w90 ⟨rfl, hb⟩
                refine ⟨_, rfl, ?_⟩
                replace BK182 := z_bk BK182 hb; replace BK183 := z_bk BK183 hb; replace BK201 := z_bk BK201 hb; replace BK202 := z_bk BK202 hb; replace BK221 := z_bk BK221 hb; replace HB := z_bs HB hb
                (try clear hb); (try clear hk)
                refine hK.out _ _ ⟨z_c BK182 0, z_c BK182 1, z_c BK182 2, z_c BK182 3, z_c BK183 0, z_c BK183 1, z_c BK183 2, z_c BK183 3⟩ (fun hHeld => ?_)
                clear hK K
                refine norm_ (a' := ?_) ?_ ?_
                rotate_left
                ·show Act.put _ (some 27) _ = _
                 simp only [Act.put, sp1, sp2, sp3, i64_w, i32_w]
                 rfl
                exact z_n (hJ1_3_11 (gb221) _ ⟨hHeld, bkw, bkw, bkw, bkw, bkw, GW221.out, GE221.out, NB182_221.out, NB221_182.out, NB183_221.out, NB221_183.out, NB201_221.out, NB221_201.out, NB202_221.out, NB221_202.out, blw⟩)
               ·skip
                refine box_step ?hg (N := 10) ?hd (cs := #[.int .i64 0, .int .i64 0, .int .i64 0, .int .i64 0]) (t := 31) ?hr ?_; (case hd => rfl); (case hg => rfl); (case hr => first | (go_simp; done) | (go_simp; rfl))
                intro gb220 hg w90 hbox hb
                have BK220 := Aside0.mk (hbox); have GW220 := z_gw HB hg; have GE220 := z_gw HB hg; have NB182_220 := z_nl BK182 hg; have NB220_182 := z_ng BK182 hg; have NB183_220 := z_nl BK183 hg; have NB220_183 := z_ng BK183 hg; have NB201_220 := z_nl BK201 hg; have NB220_201 := z_ng BK201 hg; have NB202_220 := z_nl BK202 hg; have NB220_202 := z_ng BK202 hg; have NB221_220 := z_nl BK221 hg; have NB220_221 := z_ng BK221 hg; replace BK182 := z_bk BK182 hb; replace BK183 := z_bk BK183 hb; replace BK201 := z_bk BK201 hb; replace BK202 := z_bk BK202 hb; replace BK221 := z_bk BK221 hb; replace HB := z_bs HB hb
                clear hb hbox hg
                refine hK.out _ _ ⟨z_c BK182 0, z_c BK182 1, z_c BK182 2, z_c BK182 3, z_c BK183 0, z_c BK183 1, z_c BK183 2, z_c BK183 3⟩ (fun hHeld => ?_)
                clear hK K
                refine norm_ (a' := ?_) ?_ ?_
                rotate_left
                ·show Act.put _ (some 10) _ = _
                 simp only [Act.put, sp1, sp2, sp3, i64_w, i32_w]
                 rfl
                exact z_n (hJ1_10_11 (gb220, gb221) _ ⟨hHeld, bkw, bkw, bkw, bkw, bkw, bkw, GW220.out, GE220.out, NB182_220.out, NB220_182.out, NB183_220.out, NB220_183.out, NB201_220.out, NB220_201.out, NB202_220.out, NB220_202.out, NB221_220.out, NB220_221.out, GW221.out, GE221.out, NB182_221.out, NB221_182.out, NB183_221.out, NB221_183.out, NB201_221.out, NB221_201.out, NB202_221.out, NB221_202.out, blw⟩)
             ·skip
              rintro gb220 w89 ⟨hS_, h0_, h1_, h2_, h3_, h4_, h5_, h6_, h7_, h8_, h9_, h10_, h11_, h12_, h13_, h14_, h15_⟩
              have n0_ : Aside0 (w89.heap[gb182]? = some (.cells #[.int .i64 a0_0, .int .i64 a0_1, .int .i64 a0_2, .int .i64 a0_3] 30 (0, 0))) := ⟨h0_⟩
              have n1_ : Aside0 (w89.heap[gb183]? = some (.cells #[.int .i64 a1_0, .int .i64 a1_1, .int .i64 a1_2, .int .i64 a1_3] 30 (0, 0))) := ⟨h1_⟩
              have n2_ : Aside0 (w89.heap[gb201]? = some (.cells #[.int .i64 t192, .int .i64 t193, .int .i64 t194, .int .i64 t195] 31 (0, 0))) := ⟨h2_⟩
              have n3_ : Aside0 (w89.heap[gb202]? = some (.cells #[.int .i64 t196, .int .i64 t197, .int .i64 t198, .int .i64 t199] 31 (0, 0))) := ⟨h3_⟩
              have n4_ : Aside0 (w89.heap[gb220]? = some (.cells #[.int .i64 0, .int .i64 0, .int .i64 0, .int .i64 0] 31 (0, 0))) := ⟨h4_⟩
              have n5_ : Aside0 (w.heap.size ≤ gb220) := ⟨h5_⟩
              have n6_ : Aside0 (w.heap.size ≤ gb220) := ⟨h6_⟩
              have n7_ : Aside0 (gb182 ≠ gb220) := ⟨h7_⟩
              have n8_ : Aside0 (gb220 ≠ gb182) := ⟨h8_⟩
              have n9_ : Aside0 (gb183 ≠ gb220) := ⟨h9_⟩
              have n10_ : Aside0 (gb220 ≠ gb183) := ⟨h10_⟩
              have n11_ : Aside0 (gb201 ≠ gb220) := ⟨h11_⟩
              have n12_ : Aside0 (gb220 ≠ gb201) := ⟨h12_⟩
              have n13_ : Aside0 (gb202 ≠ gb220) := ⟨h13_⟩
              have n14_ : Aside0 (gb220 ≠ gb202) := ⟨h14_⟩
              have n15_ : Aside0 (Below w.heap.size w w89) := ⟨h15_⟩
              clear BK182
              clear BK183
              clear BK201
              clear BK202
              clear HB
              clear h0_ h1_ h2_ h3_ h4_ h5_ h6_ h7_ h8_ h9_ h10_ h11_ h12_ h13_ h14_ h15_
              have BK182 := n0_
              have BK183 := n1_
              have BK201 := n2_
              have BK202 := n3_
              have BK220 := n4_
              have GW220 := n5_
              have GE220 := n6_
              have NB182_220 := n7_
              have NB220_182 := n8_
              have NB183_220 := n9_
              have NB220_183 := n10_
              have NB201_220 := n11_
              have NB220_201 := n12_
              have NB202_220 := n13_
              have NB220_202 := n14_
              have HB := n15_
              clear n0_ n1_ n2_ n3_ n4_ n5_ n6_ n7_ n8_ n9_ n10_ n11_ n12_ n13_ n14_ n15_
              have hHeld : w89.cell? ⟨gb182, 0, none⟩ = some (.int .i64 a0_0) ∧ w89.cell? ⟨gb182, 1, none⟩ = some (.int .i64 a0_1) ∧ w89.cell? ⟨gb182, 2, none⟩ = some (.int .i64 a0_2) ∧ w89.cell? ⟨gb182, 3, none⟩ = some (.int .i64 a0_3) ∧ w89.cell? ⟨gb183, 0, none⟩ = some (.int .i64 a1_0) ∧ w89.cell? ⟨gb183, 1, none⟩ = some (.int .i64 a1_1) ∧ w89.cell? ⟨gb183, 2, none⟩ = some (.int .i64 a1_2) ∧ w89.cell? ⟨gb183, 3, none⟩ = some (.int .i64 a1_3) := hS_
              refine norm_ (a' := ?_) ?_ ?_
              rotate_left
              ·simp only [putAll, Act.put, List.setIfInBounds_toArray, List.set_cons_zero, List.set_cons_succ]
               rfl
              refine two_ (i := 3) (j := 11) (Ni := some 27) (Nj := some 11) #[true, true, true, true, true, false, false, false, false, false, true, false, false, false, false] #[true, true, true, false, true, false, false, false, false, false, true, true, false, false, false] rfl rfl rfl rfl (two_of HT_.out (by kernel_rfl)) (by decide) (by decide) (fun K hK => ?_) (fun K hK => ?_)
              ·skip
               refine goes_ Try.func21 (by kernel_rfl) rfl #[.agg #[.int .i64 a1_0, .int .i64 a1_1, .int .i64 a1_2, .int .i64 a1_3]] (by rfl) rfl rfl (by (try simp only [List.map_toArray, List.map_cons, List.map_nil]); first | done | rfl | (simp only [List.length_drop, List.length_take]; rfl)) ?_
               with_reducible refine (laws_toBody.calls a1_0 a1_1 a1_2 a1_3 t207 t208 t209 t210 _ A8.out).mono ?_
               rintro e w90 ⟨rfl, hb⟩
               refine ⟨_, rfl, ?_⟩
               replace BK182 := z_bk BK182 hb; replace BK183 := z_bk BK183 hb; replace BK201 := z_bk BK201 hb; replace BK202 := z_bk BK202 hb; replace BK220 := z_bk BK220 hb; replace HB := z_bs HB hb
               (try clear hb); (try clear hk)
               refine hK.out _ _ ⟨z_c BK182 0, z_c BK182 1, z_c BK182 2, z_c BK182 3, z_c BK183 0, z_c BK183 1, z_c BK183 2, z_c BK183 3⟩ (fun hHeld => ?_)
               clear hK K
               refine norm_ (a' := ?_) ?_ ?_
               rotate_left
               ·show Act.put _ (some 27) _ = _
                simp only [Act.put, sp1, sp2, sp3, i64_w, i32_w]
                rfl
               exact z_n (hJ1_3_10 (gb220) _ ⟨hHeld, bkw, bkw, bkw, bkw, bkw, GW220.out, GE220.out, NB182_220.out, NB220_182.out, NB183_220.out, NB220_183.out, NB201_220.out, NB220_201.out, NB202_220.out, NB220_202.out, blw⟩)
              ·skip
               refine box_step ?hg (N := 11) ?hd (cs := #[.int .i64 0, .int .i64 0, .int .i64 0, .int .i64 0]) (t := 31) ?hr ?_; (case hd => rfl); (case hg => rfl); (case hr => first | (go_simp; done) | (go_simp; rfl))
               intro gb221 hg w90 hbox hb
               have BK221 := Aside0.mk (hbox); have GW221 := z_gw HB hg; have GE221 := z_gw HB hg; have NB182_221 := z_nl BK182 hg; have NB221_182 := z_ng BK182 hg; have NB183_221 := z_nl BK183 hg; have NB221_183 := z_ng BK183 hg; have NB201_221 := z_nl BK201 hg; have NB221_201 := z_ng BK201 hg; have NB202_221 := z_nl BK202 hg; have NB221_202 := z_ng BK202 hg; have NB220_221 := z_nl BK220 hg; have NB221_220 := z_ng BK220 hg; replace BK182 := z_bk BK182 hb; replace BK183 := z_bk BK183 hb; replace BK201 := z_bk BK201 hb; replace BK202 := z_bk BK202 hb; replace BK220 := z_bk BK220 hb; replace HB := z_bs HB hb
               clear hb hbox hg
               refine hK.out _ _ ⟨z_c BK182 0, z_c BK182 1, z_c BK182 2, z_c BK182 3, z_c BK183 0, z_c BK183 1, z_c BK183 2, z_c BK183 3⟩ (fun hHeld => ?_)
               clear hK K
               refine norm_ (a' := ?_) ?_ ?_
               rotate_left
               ·show Act.put _ (some 11) _ = _
                simp only [Act.put, sp1, sp2, sp3, i64_w, i32_w]
                rfl
               exact z_n (hJ1_10_11 (gb220, gb221) _ ⟨hHeld, bkw, bkw, bkw, bkw, bkw, bkw, GW220.out, GE220.out, NB182_220.out, NB220_182.out, NB183_220.out, NB220_183.out, NB201_220.out, NB220_201.out, NB202_220.out, NB220_202.out, NB221_220.out, NB220_221.out, GW221.out, GE221.out, NB182_221.out, NB221_182.out, NB183_221.out, NB221_183.out, NB201_221.out, NB221_201.out, NB202_221.out, NB221_202.out, blw⟩)
            ·skip
             rintro _ w89 ⟨hS_, h0_, h1_, h2_, h3_, h4_⟩
             have n0_ : Aside0 (w89.heap[gb182]? = some (.cells #[.int .i64 a0_0, .int .i64 a0_1, .int .i64 a0_2, .int .i64 a0_3] 30 (0, 0))) := ⟨h0_⟩
             have n1_ : Aside0 (w89.heap[gb183]? = some (.cells #[.int .i64 a1_0, .int .i64 a1_1, .int .i64 a1_2, .int .i64 a1_3] 30 (0, 0))) := ⟨h1_⟩
             have n2_ : Aside0 (w89.heap[gb201]? = some (.cells #[.int .i64 t192, .int .i64 t193, .int .i64 t194, .int .i64 t195] 31 (0, 0))) := ⟨h2_⟩
             have n3_ : Aside0 (w89.heap[gb202]? = some (.cells #[.int .i64 t196, .int .i64 t197, .int .i64 t198, .int .i64 t199] 31 (0, 0))) := ⟨h3_⟩
             have n4_ : Aside0 (Below w.heap.size w w89) := ⟨h4_⟩
             clear BK182
             clear BK183
             clear BK201
             clear BK202
             clear HB
             clear h0_ h1_ h2_ h3_ h4_
             have BK182 := n0_
             have BK183 := n1_
             have BK201 := n2_
             have BK202 := n3_
             have HB := n4_
             clear n0_ n1_ n2_ n3_ n4_
             have hHeld : w89.cell? ⟨gb182, 0, none⟩ = some (.int .i64 a0_0) ∧ w89.cell? ⟨gb182, 1, none⟩ = some (.int .i64 a0_1) ∧ w89.cell? ⟨gb182, 2, none⟩ = some (.int .i64 a0_2) ∧ w89.cell? ⟨gb182, 3, none⟩ = some (.int .i64 a0_3) ∧ w89.cell? ⟨gb183, 0, none⟩ = some (.int .i64 a1_0) ∧ w89.cell? ⟨gb183, 1, none⟩ = some (.int .i64 a1_1) ∧ w89.cell? ⟨gb183, 2, none⟩ = some (.int .i64 a1_2) ∧ w89.cell? ⟨gb183, 3, none⟩ = some (.int .i64 a1_3) := hS_
             refine norm_ (a' := ?_) ?_ ?_
             rotate_left
             ·simp only [putAll, Act.put, List.setIfInBounds_toArray, List.set_cons_zero, List.set_cons_succ]
              rfl
             refine three_ (i := 5) (j := 10) (k := 11) (Ni := some 29) (Nj := some 10) (Nk := some 11) #[true, true, true, true, true, true, false, false, false, false, false, false, false, false, false] #[true, true, true, true, true, false, false, false, false, false, true, false, false, false, false] #[true, true, true, true, true, false, false, false, false, false, false, true, false, false, false] rfl rfl rfl rfl rfl rfl (three_of HT_.out (by kernel_rfl)) (by decide) (by decide) (by decide) (fun K hK => ?_) (fun K hK => ?_) (fun K hK => ?_)
             ·skip
              refine goes_ Try.func22 (by kernel_rfl) rfl #[.agg #[.int .i64 t203, .int .i64 t204, .int .i64 t205, .int .i64 t206], .agg #[.int .i64 t207, .int .i64 t208, .int .i64 t209, .int .i64 t210], .int .i64 a2] (by rfl) rfl rfl (by (try simp only [List.map_toArray, List.map_cons, List.map_nil]); first | done | rfl | (simp only [List.length_drop, List.length_take]; rfl)) ?_
              with_reducible refine (impl_PushPair.calls k t203 t204 t205 t206 t207 t208 t209 t210 a2 t211 t212 t213 t214 t215 t216 t217 t218 t219 _ A9.out).mono ?_
              rintro e w90 ⟨rfl, hb⟩
              refine ⟨_, rfl, ?_⟩
              replace BK182 := z_bk BK182 hb; replace BK183 := z_bk BK183 hb; replace BK201 := z_bk BK201 hb; replace BK202 := z_bk BK202 hb; replace HB := z_bs HB hb
              (try clear hb); (try clear hk)
              refine hK.out _ _ ⟨z_c BK182 0, z_c BK182 1, z_c BK182 2, z_c BK182 3, z_c BK183 0, z_c BK183 1, z_c BK183 2, z_c BK183 3⟩ (fun hHeld => ?_)
              clear hK K
              refine norm_ (a' := ?_) ?_ ?_
              rotate_left
              ·show Act.put _ (some 29) _ = _
               simp only [Act.put, sp1, sp2, sp3, i64_w, i32_w]
               rfl
              refine pure_ (i := 6) (N := some 23) (v := ?_) (a' := ?_) #[true, true, true, true, true, true, true, false, false, false, false, false, false, false, false] rfl rfl (any_of HT_.out (by kernel_rfl)) (fun _ _ _ h => h) (Or.inl ⟨by rfl, ?_⟩) ?_ ?_
              rotate_left
              ·intro w'
               go_simp
               with_reducible rfl
              rotate_left
              ·simp only [Act.put, sp1, sp2, sp3, i64_w, i32_w]
               rfl
              refine pure_ (i := 7) (N := some 30) (v := ?_) (a' := ?_) #[true, true, true, true, true, true, true, true, false, false, false, false, false, false, false] rfl rfl (any_of HT_.out (by kernel_rfl)) (fun _ _ _ h => h) (Or.inl ⟨by rfl, ?_⟩) ?_ ?_
              rotate_left
              ·intro w'
               go_simp
               with_reducible rfl
              rotate_left
              ·simp only [Act.put, sp1, sp2, sp3, i64_w, i32_w]
               rfl
              refine pure_ (i := 8) (N := some 31) (v := ?_) (a' := ?_) #[true, true, true, true, true, true, true, true, true, false, false, false, false, false, false] rfl rfl (any_of HT_.out (by kernel_rfl)) (fun _ _ _ h => h) (Or.inl ⟨by rfl, ?_⟩) ?_ ?_
              rotate_left
              ·intro w'
               go_simp
               with_reducible rfl
              rotate_left
              ·simp only [Act.put, sp1, sp2, sp3, i64_w, i32_w]
               rfl
              refine pure_ (i := 9) (N := some 32) (v := ?_) (a' := ?_) #[true, true, true, true, true, true, true, true, true, true, false, false, false, false, false] rfl rfl (any_of HT_.out (by kernel_rfl)) (fun _ _ _ h => h) (Or.inl ⟨by rfl, ?_⟩) ?_ ?_
              rotate_left
              ·intro w'
               go_simp
               with_reducible rfl
              rotate_left
              ·simp only [Act.put, sp1, sp2, sp3, i64_w, i32_w]
               rfl
              exact z_n (hJ1_3_5 () _ ⟨hHeld, bkw, bkw, bkw, bkw, blw⟩)
             ·skip
              refine box_step ?hg (N := 10) ?hd (cs := #[.int .i64 0, .int .i64 0, .int .i64 0, .int .i64 0]) (t := 31) ?hr ?_; (case hd => rfl); (case hg => rfl); (case hr => first | (go_simp; done) | (go_simp; rfl))
              intro gb220 hg w90 hbox hb
              have BK220 := Aside0.mk (hbox); have GW220 := z_gw HB hg; have GE220 := z_gw HB hg; have NB182_220 := z_nl BK182 hg; have NB220_182 := z_ng BK182 hg; have NB183_220 := z_nl BK183 hg; have NB220_183 := z_ng BK183 hg; have NB201_220 := z_nl BK201 hg; have NB220_201 := z_ng BK201 hg; have NB202_220 := z_nl BK202 hg; have NB220_202 := z_ng BK202 hg; replace BK182 := z_bk BK182 hb; replace BK183 := z_bk BK183 hb; replace BK201 := z_bk BK201 hb; replace BK202 := z_bk BK202 hb; replace HB := z_bs HB hb
              clear hb hbox hg
              refine hK.out _ _ ⟨z_c BK182 0, z_c BK182 1, z_c BK182 2, z_c BK182 3, z_c BK183 0, z_c BK183 1, z_c BK183 2, z_c BK183 3⟩ (fun hHeld => ?_)
              clear hK K
              refine norm_ (a' := ?_) ?_ ?_
              rotate_left
              ·show Act.put _ (some 10) _ = _
               simp only [Act.put, sp1, sp2, sp3, i64_w, i32_w]
               rfl
              exact z_n (hJ1_3_10 (gb220) _ ⟨hHeld, bkw, bkw, bkw, bkw, bkw, GW220.out, GE220.out, NB182_220.out, NB220_182.out, NB183_220.out, NB220_183.out, NB201_220.out, NB220_201.out, NB202_220.out, NB220_202.out, blw⟩)
             ·skip
              refine box_step ?hg (N := 11) ?hd (cs := #[.int .i64 0, .int .i64 0, .int .i64 0, .int .i64 0]) (t := 31) ?hr ?_; (case hd => rfl); (case hg => rfl); (case hr => first | (go_simp; done) | (go_simp; rfl))
              intro gb221 hg w90 hbox hb
              have BK221 := Aside0.mk (hbox); have GW221 := z_gw HB hg; have GE221 := z_gw HB hg; have NB182_221 := z_nl BK182 hg; have NB221_182 := z_ng BK182 hg; have NB183_221 := z_nl BK183 hg; have NB221_183 := z_ng BK183 hg; have NB201_221 := z_nl BK201 hg; have NB221_201 := z_ng BK201 hg; have NB202_221 := z_nl BK202 hg; have NB221_202 := z_ng BK202 hg; replace BK182 := z_bk BK182 hb; replace BK183 := z_bk BK183 hb; replace BK201 := z_bk BK201 hb; replace BK202 := z_bk BK202 hb; replace HB := z_bs HB hb
              clear hb hbox hg
              refine hK.out _ _ ⟨z_c BK182 0, z_c BK182 1, z_c BK182 2, z_c BK182 3, z_c BK183 0, z_c BK183 1, z_c BK183 2, z_c BK183 3⟩ (fun hHeld => ?_)
              clear hK K
              refine norm_ (a' := ?_) ?_ ?_
              rotate_left
              ·show Act.put _ (some 11) _ = _
               simp only [Act.put, sp1, sp2, sp3, i64_w, i32_w]
               rfl
              exact z_n (hJ1_3_11 (gb221) _ ⟨hHeld, bkw, bkw, bkw, bkw, bkw, GW221.out, GE221.out, NB182_221.out, NB221_182.out, NB183_221.out, NB221_183.out, NB201_221.out, NB221_201.out, NB202_221.out, NB221_202.out, blw⟩)
           ·skip
            rintro ⟨gb220, gb221⟩ w90 ⟨hS_, h0_, h1_, h2_, h3_, h4_, h5_, h6_, h7_, h8_, h9_, h10_, h11_, h12_, h13_, h14_, h15_, h16_, h17_, h18_, h19_, h20_, h21_, h22_, h23_, h24_, h25_, h26_, h27_, h28_⟩
            have n0_ : Aside0 (w90.heap[gb182]? = some (.cells #[.int .i64 a0_0, .int .i64 a0_1, .int .i64 a0_2, .int .i64 a0_3] 30 (0, 0))) := ⟨h0_⟩
            have n1_ : Aside0 (w90.heap[gb183]? = some (.cells #[.int .i64 a1_0, .int .i64 a1_1, .int .i64 a1_2, .int .i64 a1_3] 30 (0, 0))) := ⟨h1_⟩
            have n2_ : Aside0 (w90.heap[gb201]? = some (.cells #[.int .i64 t192, .int .i64 t193, .int .i64 t194, .int .i64 t195] 31 (0, 0))) := ⟨h2_⟩
            have n3_ : Aside0 (w90.heap[gb202]? = some (.cells #[.int .i64 t196, .int .i64 t197, .int .i64 t198, .int .i64 t199] 31 (0, 0))) := ⟨h3_⟩
            have n4_ : Aside0 (w90.heap[gb220]? = some (.cells #[.int .i64 0, .int .i64 0, .int .i64 0, .int .i64 0] 31 (0, 0))) := ⟨h4_⟩
            have n5_ : Aside0 (w90.heap[gb221]? = some (.cells #[.int .i64 0, .int .i64 0, .int .i64 0, .int .i64 0] 31 (0, 0))) := ⟨h5_⟩
            have n6_ : Aside0 (w.heap.size ≤ gb220) := ⟨h6_⟩
            have n7_ : Aside0 (w.heap.size ≤ gb220) := ⟨h7_⟩
            have n8_ : Aside0 (gb182 ≠ gb220) := ⟨h8_⟩
            have n9_ : Aside0 (gb220 ≠ gb182) := ⟨h9_⟩
            have n10_ : Aside0 (gb183 ≠ gb220) := ⟨h10_⟩
            have n11_ : Aside0 (gb220 ≠ gb183) := ⟨h11_⟩
            have n12_ : Aside0 (gb201 ≠ gb220) := ⟨h12_⟩
            have n13_ : Aside0 (gb220 ≠ gb201) := ⟨h13_⟩
            have n14_ : Aside0 (gb202 ≠ gb220) := ⟨h14_⟩
            have n15_ : Aside0 (gb220 ≠ gb202) := ⟨h15_⟩
            have n16_ : Aside0 (gb221 ≠ gb220) := ⟨h16_⟩
            have n17_ : Aside0 (gb220 ≠ gb221) := ⟨h17_⟩
            have n18_ : Aside0 (w.heap.size ≤ gb221) := ⟨h18_⟩
            have n19_ : Aside0 (w.heap.size ≤ gb221) := ⟨h19_⟩
            have n20_ : Aside0 (gb182 ≠ gb221) := ⟨h20_⟩
            have n21_ : Aside0 (gb221 ≠ gb182) := ⟨h21_⟩
            have n22_ : Aside0 (gb183 ≠ gb221) := ⟨h22_⟩
            have n23_ : Aside0 (gb221 ≠ gb183) := ⟨h23_⟩
            have n24_ : Aside0 (gb201 ≠ gb221) := ⟨h24_⟩
            have n25_ : Aside0 (gb221 ≠ gb201) := ⟨h25_⟩
            have n26_ : Aside0 (gb202 ≠ gb221) := ⟨h26_⟩
            have n27_ : Aside0 (gb221 ≠ gb202) := ⟨h27_⟩
            have n28_ : Aside0 (Below w.heap.size w w90) := ⟨h28_⟩
            clear BK182
            clear BK183
            clear BK201
            clear BK202
            clear HB
            clear h0_ h1_ h2_ h3_ h4_ h5_ h6_ h7_ h8_ h9_ h10_ h11_ h12_ h13_ h14_ h15_ h16_ h17_ h18_ h19_ h20_ h21_ h22_ h23_ h24_ h25_ h26_ h27_ h28_
            have BK182 := n0_
            have BK183 := n1_
            have BK201 := n2_
            have BK202 := n3_
            have BK220 := n4_
            have BK221 := n5_
            have GW220 := n6_
            have GE220 := n7_
            have NB182_220 := n8_
            have NB220_182 := n9_
            have NB183_220 := n10_
            have NB220_183 := n11_
            have NB201_220 := n12_
            have NB220_201 := n13_
            have NB202_220 := n14_
            have NB220_202 := n15_
            have NB221_220 := n16_
            have NB220_221 := n17_
            have GW221 := n18_
            have GE221 := n19_
            have NB182_221 := n20_
            have NB221_182 := n21_
            have NB183_221 := n22_
            have NB221_183 := n23_
            have NB201_221 := n24_
            have NB221_201 := n25_
            have NB202_221 := n26_
            have NB221_202 := n27_
            have HB := n28_
            clear n0_ n1_ n2_ n3_ n4_ n5_ n6_ n7_ n8_ n9_ n10_ n11_ n12_ n13_ n14_ n15_ n16_ n17_ n18_ n19_ n20_ n21_ n22_ n23_ n24_ n25_ n26_ n27_ n28_
            have hHeld : w90.cell? ⟨gb182, 0, none⟩ = some (.int .i64 a0_0) ∧ w90.cell? ⟨gb182, 1, none⟩ = some (.int .i64 a0_1) ∧ w90.cell? ⟨gb182, 2, none⟩ = some (.int .i64 a0_2) ∧ w90.cell? ⟨gb182, 3, none⟩ = some (.int .i64 a0_3) ∧ w90.cell? ⟨gb183, 0, none⟩ = some (.int .i64 a1_0) ∧ w90.cell? ⟨gb183, 1, none⟩ = some (.int .i64 a1_1) ∧ w90.cell? ⟨gb183, 2, none⟩ = some (.int .i64 a1_2) ∧ w90.cell? ⟨gb183, 3, none⟩ = some (.int .i64 a1_3) := hS_
            refine norm_ (a' := ?_) ?_ ?_
            rotate_left
            ·simp only [putAll, Act.put, List.setIfInBounds_toArray, List.set_cons_zero, List.set_cons_succ]
             rfl
            refine one_ (i := 3) (N := some 27) #[true, true, true, true, true, false, false, false, false, false, true, true, false, false, false] rfl rfl (one_of HT_.out (by kernel_rfl)) (by decide) (fun K hK => ?_)
            refine goes_ Try.func21 (by kernel_rfl) rfl #[.agg #[.int .i64 a1_0, .int .i64 a1_1, .int .i64 a1_2, .int .i64 a1_3]] (by rfl) rfl rfl (by (try simp only [List.map_toArray, List.map_cons, List.map_nil]); first | done | rfl | (simp only [List.length_drop, List.length_take]; rfl)) ?_
            with_reducible refine (laws_toBody.calls a1_0 a1_1 a1_2 a1_3 t207 t208 t209 t210 _ A8.out).mono ?_
            rintro e w91 ⟨rfl, hb⟩
            refine ⟨_, rfl, ?_⟩
            replace BK182 := z_bk BK182 hb; replace BK183 := z_bk BK183 hb; replace BK201 := z_bk BK201 hb; replace BK202 := z_bk BK202 hb; replace BK220 := z_bk BK220 hb; replace BK221 := z_bk BK221 hb; replace HB := z_bs HB hb
            (try clear hb); (try clear hk)
            refine hK.out _ _ ⟨z_c BK182 0, z_c BK182 1, z_c BK182 2, z_c BK182 3, z_c BK183 0, z_c BK183 1, z_c BK183 2, z_c BK183 3⟩ (fun hHeld => ?_)
            clear hK K
            refine norm_ (a' := ?_) ?_ ?_
            rotate_left
            ·show Act.put _ (some 27) _ = _
             simp only [Act.put, sp1, sp2, sp3, i64_w, i32_w]
             rfl
            exact z_n (hJ1_3_10_11 (gb220, gb221) _ ⟨hHeld, bkw, bkw, bkw, bkw, bkw, bkw, GW220.out, GE220.out, NB182_220.out, NB220_182.out, NB183_220.out, NB220_183.out, NB201_220.out, NB220_201.out, NB202_220.out, NB220_202.out, NB221_220.out, NB220_221.out, GW221.out, GE221.out, NB182_221.out, NB221_182.out, NB183_221.out, NB221_183.out, NB201_221.out, NB221_201.out, NB202_221.out, NB221_202.out, blw⟩)
          ·skip
           rintro gb221 w90 ⟨hS_, h0_, h1_, h2_, h3_, h4_, h5_, h6_, h7_, h8_, h9_, h10_, h11_, h12_, h13_, h14_, h15_⟩
           have n0_ : Aside0 (w90.heap[gb182]? = some (.cells #[.int .i64 a0_0, .int .i64 a0_1, .int .i64 a0_2, .int .i64 a0_3] 30 (0, 0))) := ⟨h0_⟩
           have n1_ : Aside0 (w90.heap[gb183]? = some (.cells #[.int .i64 a1_0, .int .i64 a1_1, .int .i64 a1_2, .int .i64 a1_3] 30 (0, 0))) := ⟨h1_⟩
           have n2_ : Aside0 (w90.heap[gb201]? = some (.cells #[.int .i64 t192, .int .i64 t193, .int .i64 t194, .int .i64 t195] 31 (0, 0))) := ⟨h2_⟩
           have n3_ : Aside0 (w90.heap[gb202]? = some (.cells #[.int .i64 t196, .int .i64 t197, .int .i64 t198, .int .i64 t199] 31 (0, 0))) := ⟨h3_⟩
           have n4_ : Aside0 (w90.heap[gb221]? = some (.cells #[.int .i64 0, .int .i64 0, .int .i64 0, .int .i64 0] 31 (0, 0))) := ⟨h4_⟩
           have n5_ : Aside0 (w.heap.size ≤ gb221) := ⟨h5_⟩
           have n6_ : Aside0 (w.heap.size ≤ gb221) := ⟨h6_⟩
           have n7_ : Aside0 (gb182 ≠ gb221) := ⟨h7_⟩
           have n8_ : Aside0 (gb221 ≠ gb182) := ⟨h8_⟩
           have n9_ : Aside0 (gb183 ≠ gb221) := ⟨h9_⟩
           have n10_ : Aside0 (gb221 ≠ gb183) := ⟨h10_⟩
           have n11_ : Aside0 (gb201 ≠ gb221) := ⟨h11_⟩
           have n12_ : Aside0 (gb221 ≠ gb201) := ⟨h12_⟩
           have n13_ : Aside0 (gb202 ≠ gb221) := ⟨h13_⟩
           have n14_ : Aside0 (gb221 ≠ gb202) := ⟨h14_⟩
           have n15_ : Aside0 (Below w.heap.size w w90) := ⟨h15_⟩
           clear BK182
           clear BK183
           clear BK201
           clear BK202
           clear HB
           clear h0_ h1_ h2_ h3_ h4_ h5_ h6_ h7_ h8_ h9_ h10_ h11_ h12_ h13_ h14_ h15_
           have BK182 := n0_
           have BK183 := n1_
           have BK201 := n2_
           have BK202 := n3_
           have BK221 := n4_
           have GW221 := n5_
           have GE221 := n6_
           have NB182_221 := n7_
           have NB221_182 := n8_
           have NB183_221 := n9_
           have NB221_183 := n10_
           have NB201_221 := n11_
           have NB221_201 := n12_
           have NB202_221 := n13_
           have NB221_202 := n14_
           have HB := n15_
           clear n0_ n1_ n2_ n3_ n4_ n5_ n6_ n7_ n8_ n9_ n10_ n11_ n12_ n13_ n14_ n15_
           have hHeld : w90.cell? ⟨gb182, 0, none⟩ = some (.int .i64 a0_0) ∧ w90.cell? ⟨gb182, 1, none⟩ = some (.int .i64 a0_1) ∧ w90.cell? ⟨gb182, 2, none⟩ = some (.int .i64 a0_2) ∧ w90.cell? ⟨gb182, 3, none⟩ = some (.int .i64 a0_3) ∧ w90.cell? ⟨gb183, 0, none⟩ = some (.int .i64 a1_0) ∧ w90.cell? ⟨gb183, 1, none⟩ = some (.int .i64 a1_1) ∧ w90.cell? ⟨gb183, 2, none⟩ = some (.int .i64 a1_2) ∧ w90.cell? ⟨gb183, 3, none⟩ = some (.int .i64 a1_3) := hS_
           refine norm_ (a' := ?_) ?_ ?_
           rotate_left
           ·simp only [putAll, Act.put, List.setIfInBounds_toArray, List.set_cons_zero, List.set_cons_succ]
            rfl
           refine two_ (i := 5) (j := 10) (Ni := some 29) (Nj := some 10) #[true, true, true, true, true, true, false, false, false, false, false, true, false, false, false] #[true, true, true, true, true, false, false, false, false, false, true, true, false, false, false] rfl rfl rfl rfl (two_of HT_.out (by kernel_rfl)) (by decide) (by decide) (fun K hK => ?_) (fun K hK => ?_)
           ·skip
            refine goes_ Try.func22 (by kernel_rfl) rfl #[.agg #[.int .i64 t203, .int .i64 t204, .int .i64 t205, .int .i64 t206], .agg #[.int .i64 t207, .int .i64 t208, .int .i64 t209, .int .i64 t210], .int .i64 a2] (by rfl) rfl rfl (by (try simp only [List.map_toArray, List.map_cons, List.map_nil]); first | done | rfl | (simp only [List.length_drop, List.length_take]; rfl)) ?_
            with_reducible refine (impl_PushPair.calls k t203 t204 t205 t206 t207 t208 t209 t210 a2 t211 t212 t213 t214 t215 t216 t217 t218 t219 _ A9.out).mono ?_
            rintro e w91 ⟨rfl, hb⟩
            refine ⟨_, rfl, ?_⟩
            replace BK182 := z_bk BK182 hb; replace BK183 := z_bk BK183 hb; replace BK201 := z_bk BK201 hb; replace BK202 := z_bk BK202 hb; replace BK221 := z_bk BK221 hb; replace HB := z_bs HB hb
            (try clear hb); (try clear hk)
            refine hK.out _ _ ⟨z_c BK182 0, z_c BK182 1, z_c BK182 2, z_c BK182 3, z_c BK183 0, z_c BK183 1, z_c BK183 2, z_c BK183 3⟩ (fun hHeld => ?_)
            clear hK K
            refine norm_ (a' := ?_) ?_ ?_
            rotate_left
            ·show Act.put _ (some 29) _ = _
             simp only [Act.put, sp1, sp2, sp3, i64_w, i32_w]
             rfl
            refine pure_ (i := 6) (N := some 23) (v := ?_) (a' := ?_) #[true, true, true, true, true, true, true, false, false, false, false, true, false, false, false] rfl rfl (any_of HT_.out (by kernel_rfl)) (fun _ _ _ h => h) (Or.inl ⟨by rfl, ?_⟩) ?_ ?_
            rotate_left
            ·intro w'
             go_simp
             with_reducible rfl
            rotate_left
            ·simp only [Act.put, sp1, sp2, sp3, i64_w, i32_w]
             rfl
            refine pure_ (i := 7) (N := some 30) (v := ?_) (a' := ?_) #[true, true, true, true, true, true, true, true, false, false, false, true, false, false, false] rfl rfl (any_of HT_.out (by kernel_rfl)) (fun _ _ _ h => h) (Or.inl ⟨by rfl, ?_⟩) ?_ ?_
            rotate_left
            ·intro w'
             go_simp
             with_reducible rfl
            rotate_left
            ·simp only [Act.put, sp1, sp2, sp3, i64_w, i32_w]
             rfl
            refine pure_ (i := 8) (N := some 31) (v := ?_) (a' := ?_) #[true, true, true, true, true, true, true, true, true, false, false, true, false, false, false] rfl rfl (any_of HT_.out (by kernel_rfl)) (fun _ _ _ h => h) (Or.inl ⟨by rfl, ?_⟩) ?_ ?_
            rotate_left
            ·intro w'
             go_simp
             with_reducible rfl
            rotate_left
            ·simp only [Act.put, sp1, sp2, sp3, i64_w, i32_w]
             rfl
            refine pure_ (i := 9) (N := some 32) (v := ?_) (a' := ?_) #[true, true, true, true, true, true, true, true, true, true, false, true, false, false, false] rfl rfl (any_of HT_.out (by kernel_rfl)) (fun _ _ _ h => h) (Or.inl ⟨by rfl, ?_⟩) ?_ ?_
            rotate_left
            ·intro w'
             go_simp
             with_reducible rfl
            rotate_left
            ·simp only [Act.put, sp1, sp2, sp3, i64_w, i32_w]
             rfl
            exact z_n (hJ1_3_5_11 (gb221) _ ⟨hHeld, bkw, bkw, bkw, bkw, bkw, GW221.out, GE221.out, NB182_221.out, NB221_182.out, NB183_221.out, NB221_183.out, NB201_221.out, NB221_201.out, NB202_221.out, NB221_202.out, blw⟩)
           ·skip
            refine box_step ?hg (N := 10) ?hd (cs := #[.int .i64 0, .int .i64 0, .int .i64 0, .int .i64 0]) (t := 31) ?hr ?_; (case hd => rfl); (case hg => rfl); (case hr => first | (go_simp; done) | (go_simp; rfl))
            intro gb220 hg w91 hbox hb
            have BK220 := Aside0.mk (hbox); have GW220 := z_gw HB hg; have GE220 := z_gw HB hg; have NB182_220 := z_nl BK182 hg; have NB220_182 := z_ng BK182 hg; have NB183_220 := z_nl BK183 hg; have NB220_183 := z_ng BK183 hg; have NB201_220 := z_nl BK201 hg; have NB220_201 := z_ng BK201 hg; have NB202_220 := z_nl BK202 hg; have NB220_202 := z_ng BK202 hg; have NB221_220 := z_nl BK221 hg; have NB220_221 := z_ng BK221 hg; replace BK182 := z_bk BK182 hb; replace BK183 := z_bk BK183 hb; replace BK201 := z_bk BK201 hb; replace BK202 := z_bk BK202 hb; replace BK221 := z_bk BK221 hb; replace HB := z_bs HB hb
            clear hb hbox hg
            refine hK.out _ _ ⟨z_c BK182 0, z_c BK182 1, z_c BK182 2, z_c BK182 3, z_c BK183 0, z_c BK183 1, z_c BK183 2, z_c BK183 3⟩ (fun hHeld => ?_)
            clear hK K
            refine norm_ (a' := ?_) ?_ ?_
            rotate_left
            ·show Act.put _ (some 10) _ = _
             simp only [Act.put, sp1, sp2, sp3, i64_w, i32_w]
             rfl
            exact z_n (hJ1_3_10_11 (gb220, gb221) _ ⟨hHeld, bkw, bkw, bkw, bkw, bkw, bkw, GW220.out, GE220.out, NB182_220.out, NB220_182.out, NB183_220.out, NB220_183.out, NB201_220.out, NB220_201.out, NB202_220.out, NB220_202.out, NB221_220.out, NB220_221.out, GW221.out, GE221.out, NB182_221.out, NB221_182.out, NB183_221.out, NB221_183.out, NB201_221.out, NB221_201.out, NB202_221.out, NB221_202.out, blw⟩)
         ·skip
          rintro gb220 w90 ⟨hS_, h0_, h1_, h2_, h3_, h4_, h5_, h6_, h7_, h8_, h9_, h10_, h11_, h12_, h13_, h14_, h15_⟩
          have n0_ : Aside0 (w90.heap[gb182]? = some (.cells #[.int .i64 a0_0, .int .i64 a0_1, .int .i64 a0_2, .int .i64 a0_3] 30 (0, 0))) := ⟨h0_⟩
          have n1_ : Aside0 (w90.heap[gb183]? = some (.cells #[.int .i64 a1_0, .int .i64 a1_1, .int .i64 a1_2, .int .i64 a1_3] 30 (0, 0))) := ⟨h1_⟩
          have n2_ : Aside0 (w90.heap[gb201]? = some (.cells #[.int .i64 t192, .int .i64 t193, .int .i64 t194, .int .i64 t195] 31 (0, 0))) := ⟨h2_⟩
          have n3_ : Aside0 (w90.heap[gb202]? = some (.cells #[.int .i64 t196, .int .i64 t197, .int .i64 t198, .int .i64 t199] 31 (0, 0))) := ⟨h3_⟩
          have n4_ : Aside0 (w90.heap[gb220]? = some (.cells #[.int .i64 0, .int .i64 0, .int .i64 0, .int .i64 0] 31 (0, 0))) := ⟨h4_⟩
          have n5_ : Aside0 (w.heap.size ≤ gb220) := ⟨h5_⟩
          have n6_ : Aside0 (w.heap.size ≤ gb220) := ⟨h6_⟩
          have n7_ : Aside0 (gb182 ≠ gb220) := ⟨h7_⟩
          have n8_ : Aside0 (gb220 ≠ gb182) := ⟨h8_⟩
          have n9_ : Aside0 (gb183 ≠ gb220) := ⟨h9_⟩
          have n10_ : Aside0 (gb220 ≠ gb183) := ⟨h10_⟩
          have n11_ : Aside0 (gb201 ≠ gb220) := ⟨h11_⟩
          have n12_ : Aside0 (gb220 ≠ gb201) := ⟨h12_⟩
          have n13_ : Aside0 (gb202 ≠ gb220) := ⟨h13_⟩
          have n14_ : Aside0 (gb220 ≠ gb202) := ⟨h14_⟩
          have n15_ : Aside0 (Below w.heap.size w w90) := ⟨h15_⟩
          clear BK182
          clear BK183
          clear BK201
          clear BK202
          clear HB
          clear h0_ h1_ h2_ h3_ h4_ h5_ h6_ h7_ h8_ h9_ h10_ h11_ h12_ h13_ h14_ h15_
          have BK182 := n0_
          have BK183 := n1_
          have BK201 := n2_
          have BK202 := n3_
          have BK220 := n4_
          have GW220 := n5_
          have GE220 := n6_
          have NB182_220 := n7_
          have NB220_182 := n8_
          have NB183_220 := n9_
          have NB220_183 := n10_
          have NB201_220 := n11_
          have NB220_201 := n12_
          have NB202_220 := n13_
          have NB220_202 := n14_
          have HB := n15_
          clear n0_ n1_ n2_ n3_ n4_ n5_ n6_ n7_ n8_ n9_ n10_ n11_ n12_ n13_ n14_ n15_
          have hHeld : w90.cell? ⟨gb182, 0, none⟩ = some (.int .i64 a0_0) ∧ w90.cell? ⟨gb182, 1, none⟩ = some (.int .i64 a0_1) ∧ w90.cell? ⟨gb182, 2, none⟩ = some (.int .i64 a0_2) ∧ w90.cell? ⟨gb182, 3, none⟩ = some (.int .i64 a0_3) ∧ w90.cell? ⟨gb183, 0, none⟩ = some (.int .i64 a1_0) ∧ w90.cell? ⟨gb183, 1, none⟩ = some (.int .i64 a1_1) ∧ w90.cell? ⟨gb183, 2, none⟩ = some (.int .i64 a1_2) ∧ w90.cell? ⟨gb183, 3, none⟩ = some (.int .i64 a1_3) := hS_
          refine norm_ (a' := ?_) ?_ ?_
          rotate_left
          ·simp only [putAll, Act.put, List.setIfInBounds_toArray, List.set_cons_zero, List.set_cons_succ]
           rfl
          refine two_ (i := 5) (j := 11) (Ni := some 29) (Nj := some 11) #[true, true, true, true, true, true, false, false, false, false, true, false, false, false, false] #[true, true, true, true, true, false, false, false, false, false, true, true, false, false, false] rfl rfl rfl rfl (two_of HT_.out (by kernel_rfl)) (by decide) (by decide) (fun K hK => ?_) (fun K hK => ?_)
          ·skip
           refine goes_ Try.func22 (by kernel_rfl) rfl #[.agg #[.int .i64 t203, .int .i64 t204, .int .i64 t205, .int .i64 t206], .agg #[.int .i64 t207, .int .i64 t208, .int .i64 t209, .int .i64 t210], .int .i64 a2] (by rfl) rfl rfl (by (try simp only [List.map_toArray, List.map_cons, List.map_nil]); first | done | rfl | (simp only [List.length_drop, List.length_take]; rfl)) ?_
           with_reducible refine (impl_PushPair.calls k t203 t204 t205 t206 t207 t208 t209 t210 a2 t211 t212 t213 t214 t215 t216 t217 t218 t219 _ A9.out).mono ?_
           rintro e w91 ⟨rfl, hb⟩
           refine ⟨_, rfl, ?_⟩
           replace BK182 := z_bk BK182 hb; replace BK183 := z_bk BK183 hb; replace BK201 := z_bk BK201 hb; replace BK202 := z_bk BK202 hb; replace BK220 := z_bk BK220 hb; replace HB := z_bs HB hb
           (try clear hb); (try clear hk)
           refine hK.out _ _ ⟨z_c BK182 0, z_c BK182 1, z_c BK182 2, z_c BK182 3, z_c BK183 0, z_c BK183 1, z_c BK183 2, z_c BK183 3⟩ (fun hHeld => ?_)
           clear hK K
           refine norm_ (a' := ?_) ?_ ?_
           rotate_left
           ·show Act.put _ (some 29) _ = _
            simp only [Act.put, sp1, sp2, sp3, i64_w, i32_w]
            rfl
           refine pure_ (i := 6) (N := some 23) (v := ?_) (a' := ?_) #[true, true, true, true, true, true, true, false, false, false, true, false, false, false, false] rfl rfl (any_of HT_.out (by kernel_rfl)) (fun _ _ _ h => h) (Or.inl ⟨by rfl, ?_⟩) ?_ ?_
           rotate_left
           ·intro w'
            go_simp
            with_reducible rfl
           rotate_left
           ·simp only [Act.put, sp1, sp2, sp3, i64_w, i32_w]
            rfl
           refine pure_ (i := 7) (N := some 30) (v := ?_) (a' := ?_) #[true, true, true, true, true, true, true, true, false, false, true, false, false, false, false] rfl rfl (any_of HT_.out (by kernel_rfl)) (fun _ _ _ h => h) (Or.inl ⟨by rfl, ?_⟩) ?_ ?_
           rotate_left
           ·intro w'
            go_simp
            with_reducible rfl
           rotate_left
           ·simp only [Act.put, sp1, sp2, sp3, i64_w, i32_w]
            rfl
           refine pure_ (i := 8) (N := some 31) (v := ?_) (a' := ?_) #[true, true, true, true, true, true, true, true, true, false, true, false, false, false, false] rfl rfl (any_of HT_.out (by kernel_rfl)) (fun _ _ _ h => h) (Or.inl ⟨by rfl, ?_⟩) ?_ ?_
           rotate_left
           ·intro w'
            go_simp
            with_reducible rfl
           rotate_left
           ·simp only [Act.put, sp1, sp2, sp3, i64_w, i32_w]
            rfl
           refine pure_ (i := 9) (N := some 32) (v := ?_) (a' := ?_) #[true, true, true, true, true, true, true, true, true, true, true, false, false, false, false] rfl rfl (any_of HT_.out (by kernel_rfl)) (fun _ _ _ h => h) (Or.inl ⟨by rfl, ?_⟩) ?_ ?_
           rotate_left
           ·intro w'
            go_simp
            with_reducible rfl
           rotate_left
           ·simp only [Act.put, sp1, sp2, sp3, i64_w, i32_w]
            rfl
           exact z_n (hJ1_3_5_10 (gb220) _ ⟨hHeld, bkw, bkw, bkw, bkw, bkw, GW220.out, GE220.out, NB182_220.out, NB220_182.out, NB183_220.out, NB220_183.out, NB201_220.out, NB220_201.out, NB202_220.out, NB220_202.out, blw⟩)
          ·skip
           refine box_step ?hg (N := 11) ?hd (cs := #[.int .i64 0, .int .i64 0, .int .i64 0, .int .i64 0]) (t := 31) ?hr ?_; (case hd => rfl); (case hg => rfl); (case hr => first | (go_simp; done) | (go_simp; rfl))
           intro gb221 hg w91 hbox hb
           have BK221 := Aside0.mk (hbox); have GW221 := z_gw HB hg; have GE221 := z_gw HB hg; have NB182_221 := z_nl BK182 hg; have NB221_182 := z_ng BK182 hg; have NB183_221 := z_nl BK183 hg; have NB221_183 := z_ng BK183 hg; have NB201_221 := z_nl BK201 hg; have NB221_201 := z_ng BK201 hg; have NB202_221 := z_nl BK202 hg; have NB221_202 := z_ng BK202 hg; have NB220_221 := z_nl BK220 hg; have NB221_220 := z_ng BK220 hg; replace BK182 := z_bk BK182 hb; replace BK183 := z_bk BK183 hb; replace BK201 := z_bk BK201 hb; replace BK202 := z_bk BK202 hb; replace BK220 := z_bk BK220 hb; replace HB := z_bs HB hb
           clear hb hbox hg
           refine hK.out _ _ ⟨z_c BK182 0, z_c BK182 1, z_c BK182 2, z_c BK182 3, z_c BK183 0, z_c BK183 1, z_c BK183 2, z_c BK183 3⟩ (fun hHeld => ?_)
           clear hK K
           refine norm_ (a' := ?_) ?_ ?_
           rotate_left
           ·show Act.put _ (some 11) _ = _
            simp only [Act.put, sp1, sp2, sp3, i64_w, i32_w]
            rfl
           exact z_n (hJ1_3_10_11 (gb220, gb221) _ ⟨hHeld, bkw, bkw, bkw, bkw, bkw, bkw, GW220.out, GE220.out, NB182_220.out, NB220_182.out, NB183_220.out, NB220_183.out, NB201_220.out, NB220_201.out, NB202_220.out, NB220_202.out, NB221_220.out, NB220_221.out, GW221.out, GE221.out, NB182_221.out, NB221_182.out, NB183_221.out, NB221_183.out, NB201_221.out, NB221_201.out, NB202_221.out, NB221_202.out, blw⟩)
        ·skip
         rintro _ w90 ⟨hS_, h0_, h1_, h2_, h3_, h4_⟩
         have n0_ : Aside0 (w90.heap[gb182]? = some (.cells #[.int .i64 a0_0, .int .i64 a0_1, .int .i64 a0_2, .int .i64 a0_3] 30 (0, 0))) := ⟨h0_⟩
         have n1_ : Aside0 (w90.heap[gb183]? = some (.cells #[.int .i64 a1_0, .int .i64 a1_1, .int .i64 a1_2, .int .i64 a1_3] 30 (0, 0))) := ⟨h1_⟩
         have n2_ : Aside0 (w90.heap[gb201]? = some (.cells #[.int .i64 t192, .int .i64 t193, .int .i64 t194, .int .i64 t195] 31 (0, 0))) := ⟨h2_⟩
         have n3_ : Aside0 (w90.heap[gb202]? = some (.cells #[.int .i64 t196, .int .i64 t197, .int .i64 t198, .int .i64 t199] 31 (0, 0))) := ⟨h3_⟩
         have n4_ : Aside0 (Below w.heap.size w w90) := ⟨h4_⟩
         clear BK182
         clear BK183
         clear BK201
         clear BK202
         clear HB
         clear h0_ h1_ h2_ h3_ h4_
         have BK182 := n0_
         have BK183 := n1_
         have BK201 := n2_
         have BK202 := n3_
         have HB := n4_
         clear n0_ n1_ n2_ n3_ n4_
         have hHeld : w90.cell? ⟨gb182, 0, none⟩ = some (.int .i64 a0_0) ∧ w90.cell? ⟨gb182, 1, none⟩ = some (.int .i64 a0_1) ∧ w90.cell? ⟨gb182, 2, none⟩ = some (.int .i64 a0_2) ∧ w90.cell? ⟨gb182, 3, none⟩ = some (.int .i64 a0_3) ∧ w90.cell? ⟨gb183, 0, none⟩ = some (.int .i64 a1_0) ∧ w90.cell? ⟨gb183, 1, none⟩ = some (.int .i64 a1_1) ∧ w90.cell? ⟨gb183, 2, none⟩ = some (.int .i64 a1_2) ∧ w90.cell? ⟨gb183, 3, none⟩ = some (.int .i64 a1_3) := hS_
         refine norm_ (a' := ?_) ?_ ?_
         rotate_left
         ·simp only [putAll, Act.put, List.setIfInBounds_toArray, List.set_cons_zero, List.set_cons_succ]
          rfl
         refine two_ (i := 10) (j := 11) (Ni := some 10) (Nj := some 11) #[true, true, true, true, true, true, true, true, true, true, true, false, false, false, false] #[true, true, true, true, true, true, true, true, true, true, false, true, false, false, false] rfl rfl rfl rfl (two_of HT_.out (by kernel_rfl)) (by decide) (by decide) (fun K hK => ?_) (fun K hK => ?_)
         ·skip
          refine box_step ?hg (N := 10) ?hd (cs := #[.int .i64 0, .int .i64 0, .int .i64 0, .int .i64 0]) (t := 31) ?hr ?_; (case hd => rfl); (case hg => rfl); (case hr => first | (go_simp; done) | (go_simp; rfl))
          intro gb220 hg w91 hbox hb
          have BK220 := Aside0.mk (hbox); have GW220 := z_gw HB hg; have GE220 := z_gw HB hg; have NB182_220 := z_nl BK182 hg; have NB220_182 := z_ng BK182 hg; have NB183_220 := z_nl BK183 hg; have NB220_183 := z_ng BK183 hg; have NB201_220 := z_nl BK201 hg; have NB220_201 := z_ng BK201 hg; have NB202_220 := z_nl BK202 hg; have NB220_202 := z_ng BK202 hg; replace BK182 := z_bk BK182 hb; replace BK183 := z_bk BK183 hb; replace BK201 := z_bk BK201 hb; replace BK202 := z_bk BK202 hb; replace HB := z_bs HB hb
          clear hb hbox hg
          refine hK.out _ _ ⟨z_c BK182 0, z_c BK182 1, z_c BK182 2, z_c BK182 3, z_c BK183 0, z_c BK183 1, z_c BK183 2, z_c BK183 3⟩ (fun hHeld => ?_)
          clear hK K
          refine norm_ (a' := ?_) ?_ ?_
          rotate_left
          ·show Act.put _ (some 10) _ = _
           simp only [Act.put, sp1, sp2, sp3, i64_w, i32_w]
           rfl
          exact z_n (hJ1_3_5_10 (gb220) _ ⟨hHeld, bkw, bkw, bkw, bkw, bkw, GW220.out, GE220.out, NB182_220.out, NB220_182.out, NB183_220.out, NB220_183.out, NB201_220.out, NB220_201.out, NB202_220.out, NB220_202.out, blw⟩)
         ·skip
          refine box_step ?hg (N := 11) ?hd (cs := #[.int .i64 0, .int .i64 0, .int .i64 0, .int .i64 0]) (t := 31) ?hr ?_; (case hd => rfl); (case hg => rfl); (case hr => first | (go_simp; done) | (go_simp; rfl))
          intro gb221 hg w91 hbox hb
          have BK221 := Aside0.mk (hbox); have GW221 := z_gw HB hg; have GE221 := z_gw HB hg; have NB182_221 := z_nl BK182 hg; have NB221_182 := z_ng BK182 hg; have NB183_221 := z_nl BK183 hg; have NB221_183 := z_ng BK183 hg; have NB201_221 := z_nl BK201 hg; have NB221_201 := z_ng BK201 hg; have NB202_221 := z_nl BK202 hg; have NB221_202 := z_ng BK202 hg; replace BK182 := z_bk BK182 hb; replace BK183 := z_bk BK183 hb; replace BK201 := z_bk BK201 hb; replace BK202 := z_bk BK202 hb; replace HB := z_bs HB hb
          clear hb hbox hg
          refine hK.out _ _ ⟨z_c BK182 0, z_c BK182 1, z_c BK182 2, z_c BK182 3, z_c BK183 0, z_c BK183 1, z_c BK183 2, z_c BK183 3⟩ (fun hHeld => ?_)
          clear hK K
          refine norm_ (a' := ?_) ?_ ?_
          rotate_left
          ·show Act.put _ (some 11) _ = _
           simp only [Act.put, sp1, sp2, sp3, i64_w, i32_w]
           rfl
          exact z_n (hJ1_3_5_11 (gb221) _ ⟨hHeld, bkw, bkw, bkw, bkw, bkw, GW221.out, GE221.out, NB182_221.out, NB221_182.out, NB183_221.out, NB221_183.out, NB201_221.out, NB221_201.out, NB202_221.out, NB221_202.out, blw⟩)
       ·skip
        rintro ⟨gb220, gb221⟩ w91 ⟨hS_, h0_, h1_, h2_, h3_, h4_, h5_, h6_, h7_, h8_, h9_, h10_, h11_, h12_, h13_, h14_, h15_, h16_, h17_, h18_, h19_, h20_, h21_, h22_, h23_, h24_, h25_, h26_, h27_, h28_⟩
        have n0_ : Aside0 (w91.heap[gb182]? = some (.cells #[.int .i64 a0_0, .int .i64 a0_1, .int .i64 a0_2, .int .i64 a0_3] 30 (0, 0))) := ⟨h0_⟩
        have n1_ : Aside0 (w91.heap[gb183]? = some (.cells #[.int .i64 a1_0, .int .i64 a1_1, .int .i64 a1_2, .int .i64 a1_3] 30 (0, 0))) := ⟨h1_⟩
        have n2_ : Aside0 (w91.heap[gb201]? = some (.cells #[.int .i64 t192, .int .i64 t193, .int .i64 t194, .int .i64 t195] 31 (0, 0))) := ⟨h2_⟩
        have n3_ : Aside0 (w91.heap[gb202]? = some (.cells #[.int .i64 t196, .int .i64 t197, .int .i64 t198, .int .i64 t199] 31 (0, 0))) := ⟨h3_⟩
        have n4_ : Aside0 (w91.heap[gb220]? = some (.cells #[.int .i64 0, .int .i64 0, .int .i64 0, .int .i64 0] 31 (0, 0))) := ⟨h4_⟩
        have n5_ : Aside0 (w91.heap[gb221]? = some (.cells #[.int .i64 0, .int .i64 0, .int .i64 0, .int .i64 0] 31 (0, 0))) := ⟨h5_⟩
        have n6_ : Aside0 (w.heap.size ≤ gb220) := ⟨h6_⟩
        have n7_ : Aside0 (w.heap.size ≤ gb220) := ⟨h7_⟩
        have n8_ : Aside0 (gb182 ≠ gb220) := ⟨h8_⟩
        have n9_ : Aside0 (gb220 ≠ gb182) := ⟨h9_⟩
        have n10_ : Aside0 (gb183 ≠ gb220) := ⟨h10_⟩
        have n11_ : Aside0 (gb220 ≠ gb183) := ⟨h11_⟩
        have n12_ : Aside0 (gb201 ≠ gb220) := ⟨h12_⟩
        have n13_ : Aside0 (gb220 ≠ gb201) := ⟨h13_⟩
        have n14_ : Aside0 (gb202 ≠ gb220) := ⟨h14_⟩
        have n15_ : Aside0 (gb220 ≠ gb202) := ⟨h15_⟩
        have n16_ : Aside0 (gb221 ≠ gb220) := ⟨h16_⟩
        have n17_ : Aside0 (gb220 ≠ gb221) := ⟨h17_⟩
        have n18_ : Aside0 (w.heap.size ≤ gb221) := ⟨h18_⟩
        have n19_ : Aside0 (w.heap.size ≤ gb221) := ⟨h19_⟩
        have n20_ : Aside0 (gb182 ≠ gb221) := ⟨h20_⟩
        have n21_ : Aside0 (gb221 ≠ gb182) := ⟨h21_⟩
        have n22_ : Aside0 (gb183 ≠ gb221) := ⟨h22_⟩
        have n23_ : Aside0 (gb221 ≠ gb183) := ⟨h23_⟩
        have n24_ : Aside0 (gb201 ≠ gb221) := ⟨h24_⟩
        have n25_ : Aside0 (gb221 ≠ gb201) := ⟨h25_⟩
        have n26_ : Aside0 (gb202 ≠ gb221) := ⟨h26_⟩
        have n27_ : Aside0 (gb221 ≠ gb202) := ⟨h27_⟩
        have n28_ : Aside0 (Below w.heap.size w w91) := ⟨h28_⟩
        clear BK182
        clear BK183
        clear BK201
        clear BK202
        clear HB
        clear h0_ h1_ h2_ h3_ h4_ h5_ h6_ h7_ h8_ h9_ h10_ h11_ h12_ h13_ h14_ h15_ h16_ h17_ h18_ h19_ h20_ h21_ h22_ h23_ h24_ h25_ h26_ h27_ h28_
        have BK182 := n0_
        have BK183 := n1_
        have BK201 := n2_
        have BK202 := n3_
        have BK220 := n4_
        have BK221 := n5_
        have GW220 := n6_
        have GE220 := n7_
        have NB182_220 := n8_
        have NB220_182 := n9_
        have NB183_220 := n10_
        have NB220_183 := n11_
        have NB201_220 := n12_
        have NB220_201 := n13_
        have NB202_220 := n14_
        have NB220_202 := n15_
        have NB221_220 := n16_
        have NB220_221 := n17_
        have GW221 := n18_
        have GE221 := n19_
        have NB182_221 := n20_
        have NB221_182 := n21_
        have NB183_221 := n22_
        have NB221_183 := n23_
        have NB201_221 := n24_
        have NB221_201 := n25_
        have NB202_221 := n26_
        have NB221_202 := n27_
        have HB := n28_
        clear n0_ n1_ n2_ n3_ n4_ n5_ n6_ n7_ n8_ n9_ n10_ n11_ n12_ n13_ n14_ n15_ n16_ n17_ n18_ n19_ n20_ n21_ n22_ n23_ n24_ n25_ n26_ n27_ n28_
        have hHeld : w91.cell? ⟨gb182, 0, none⟩ = some (.int .i64 a0_0) ∧ w91.cell? ⟨gb182, 1, none⟩ = some (.int .i64 a0_1) ∧ w91.cell? ⟨gb182, 2, none⟩ = some (.int .i64 a0_2) ∧ w91.cell? ⟨gb182, 3, none⟩ = some (.int .i64 a0_3) ∧ w91.cell? ⟨gb183, 0, none⟩ = some (.int .i64 a1_0) ∧ w91.cell? ⟨gb183, 1, none⟩ = some (.int .i64 a1_1) ∧ w91.cell? ⟨gb183, 2, none⟩ = some (.int .i64 a1_2) ∧ w91.cell? ⟨gb183, 3, none⟩ = some (.int .i64 a1_3) := hS_
        refine norm_ (a' := ?_) ?_ ?_
        rotate_left
        ·simp only [putAll, Act.put, List.setIfInBounds_toArray, List.set_cons_zero, List.set_cons_succ]
         rfl
        refine one_ (i := 5) (N := some 29) #[true, true, true, true, true, true, false, false, false, false, true, true, false, false, false] rfl rfl (one_of HT_.out (by kernel_rfl)) (by decide) (fun K hK => ?_)
        refine goes_ Try.func22 (by kernel_rfl) rfl #[.agg #[.int .i64 t203, .int .i64 t204, .int .i64 t205, .int .i64 t206], .agg #[.int .i64 t207, .int .i64 t208, .int .i64 t209, .int .i64 t210], .int .i64 a2] (by rfl) rfl rfl (by (try simp only [List.map_toArray, List.map_cons, List.map_nil]); first | done | rfl | (simp only [List.length_drop, List.length_take]; rfl)) ?_
        with_reducible refine (impl_PushPair.calls k t203 t204 t205 t206 t207 t208 t209 t210 a2 t211 t212 t213 t214 t215 t216 t217 t218 t219 _ A9.out).mono ?_
        rintro e w92 ⟨rfl, hb⟩
        refine ⟨_, rfl, ?_⟩
        replace BK182 := z_bk BK182 hb; replace BK183 := z_bk BK183 hb; replace BK201 := z_bk BK201 hb; replace BK202 := z_bk BK202 hb; replace BK220 := z_bk BK220 hb; replace BK221 := z_bk BK221 hb; replace HB := z_bs HB hb
        (try clear hb); (try clear hk)
        refine hK.out _ _ ⟨z_c BK182 0, z_c BK182 1, z_c BK182 2, z_c BK182 3, z_c BK183 0, z_c BK183 1, z_c BK183 2, z_c BK183 3⟩ (fun hHeld => ?_)
        clear hK K
        refine norm_ (a' := ?_) ?_ ?_
        rotate_left
        ·show Act.put _ (some 29) _ = _
         simp only [Act.put, sp1, sp2, sp3, i64_w, i32_w]
         rfl
        refine pure_ (i := 6) (N := some 23) (v := ?_) (a' := ?_) #[true, true, true, true, true, true, true, false, false, false, true, true, false, false, false] rfl rfl (any_of HT_.out (by kernel_rfl)) (fun _ _ _ h => h) (Or.inl ⟨by rfl, ?_⟩) ?_ ?_
        rotate_left
        ·intro w'
         go_simp
         with_reducible rfl
        rotate_left
        ·simp only [Act.put, sp1, sp2, sp3, i64_w, i32_w]
         rfl
        refine pure_ (i := 7) (N := some 30) (v := ?_) (a' := ?_) #[true, true, true, true, true, true, true, true, false, false, true, true, false, false, false] rfl rfl (any_of HT_.out (by kernel_rfl)) (fun _ _ _ h => h) (Or.inl ⟨by rfl, ?_⟩) ?_ ?_
        rotate_left
        ·intro w'
         go_simp
         with_reducible rfl
        rotate_left
        ·simp only [Act.put, sp1, sp2, sp3, i64_w, i32_w]
         rfl
        refine pure_ (i := 8) (N := some 31) (v := ?_) (a' := ?_) #[true, true, true, true, true, true, true, true, true, false, true, true, false, false, false] rfl rfl (any_of HT_.out (by kernel_rfl)) (fun _ _ _ h => h) (Or.inl ⟨by rfl, ?_⟩) ?_ ?_
        rotate_left
        ·intro w'
         go_simp
         with_reducible rfl
        rotate_left
        ·simp only [Act.put, sp1, sp2, sp3, i64_w, i32_w]
         rfl
        refine pure_ (i := 9) (N := some 32) (v := ?_) (a' := ?_) #[true, true, true, true, true, true, true, true, true, true, true, true, false, false, false] rfl rfl (any_of HT_.out (by kernel_rfl)) (fun _ _ _ h => h) (Or.inl ⟨by rfl, ?_⟩) ?_ ?_
        rotate_left
        ·intro w'
         go_simp
         with_reducible rfl
        rotate_left
        ·simp only [Act.put, sp1, sp2, sp3, i64_w, i32_w]
         rfl
        exact z_n (hJ1_3_5_10_11 (gb220, gb221) _ ⟨hHeld, bkw, bkw, bkw, bkw, bkw, bkw, GW220.out, GE220.out, NB182_220.out, NB220_182.out, NB183_220.out, NB220_183.out, NB201_220.out, NB220_201.out, NB202_220.out, NB220_202.out, NB221_220.out, NB220_221.out, GW221.out, GE221.out, NB182_221.out, NB221_182.out, NB183_221.out, NB221_183.out, NB201_221.out, NB221_201.out, NB202_221.out, NB221_202.out, blw⟩)
      ·skip
       rintro gb221 w91 ⟨hS_, h0_, h1_, h2_, h3_, h4_, h5_, h6_, h7_, h8_, h9_, h10_, h11_, h12_, h13_, h14_, h15_⟩
       have n0_ : Aside0 (w91.heap[gb182]? = some (.cells #[.int .i64 a0_0, .int .i64 a0_1, .int .i64 a0_2, .int .i64 a0_3] 30 (0, 0))) := ⟨h0_⟩
       have n1_ : Aside0 (w91.heap[gb183]? = some (.cells #[.int .i64 a1_0, .int .i64 a1_1, .int .i64 a1_2, .int .i64 a1_3] 30 (0, 0))) := ⟨h1_⟩
       have n2_ : Aside0 (w91.heap[gb201]? = some (.cells #[.int .i64 t192, .int .i64 t193, .int .i64 t194, .int .i64 t195] 31 (0, 0))) := ⟨h2_⟩
       have n3_ : Aside0 (w91.heap[gb202]? = some (.cells #[.int .i64 t196, .int .i64 t197, .int .i64 t198, .int .i64 t199] 31 (0, 0))) := ⟨h3_⟩
       have n4_ : Aside0 (w91.heap[gb221]? = some (.cells #[.int .i64 0, .int .i64 0, .int .i64 0, .int .i64 0] 31 (0, 0))) := ⟨h4_⟩
       have n5_ : Aside0 (w.heap.size ≤ gb221) := ⟨h5_⟩
       have n6_ : Aside0 (w.heap.size ≤ gb221) := ⟨h6_⟩
       have n7_ : Aside0 (gb182 ≠ gb221) := ⟨h7_⟩
       have n8_ : Aside0 (gb221 ≠ gb182) := ⟨h8_⟩
       have n9_ : Aside0 (gb183 ≠ gb221) := ⟨h9_⟩
       have n10_ : Aside0 (gb221 ≠ gb183) := ⟨h10_⟩
       have n11_ : Aside0 (gb201 ≠ gb221) := ⟨h11_⟩
       have n12_ : Aside0 (gb221 ≠ gb201) := ⟨h12_⟩
       have n13_ : Aside0 (gb202 ≠ gb221) := ⟨h13_⟩
       have n14_ : Aside0 (gb221 ≠ gb202) := ⟨h14_⟩
       have n15_ : Aside0 (Below w.heap.size w w91) := ⟨h15_⟩
       clear BK182
       clear BK183
       clear BK201
       clear BK202
       clear HB
       clear h0_ h1_ h2_ h3_ h4_ h5_ h6_ h7_ h8_ h9_ h10_ h11_ h12_ h13_ h14_ h15_
       have BK182 := n0_
       have BK183 := n1_
       have BK201 := n2_
       have BK202 := n3_
       have BK221 := n4_
       have GW221 := n5_
       have GE221 := n6_
       have NB182_221 := n7_
       have NB221_182 := n8_
       have NB183_221 := n9_
       have NB221_183 := n10_
       have NB201_221 := n11_
       have NB221_201 := n12_
       have NB202_221 := n13_
       have NB221_202 := n14_
       have HB := n15_
       clear n0_ n1_ n2_ n3_ n4_ n5_ n6_ n7_ n8_ n9_ n10_ n11_ n12_ n13_ n14_ n15_
       have hHeld : w91.cell? ⟨gb182, 0, none⟩ = some (.int .i64 a0_0) ∧ w91.cell? ⟨gb182, 1, none⟩ = some (.int .i64 a0_1) ∧ w91.cell? ⟨gb182, 2, none⟩ = some (.int .i64 a0_2) ∧ w91.cell? ⟨gb182, 3, none⟩ = some (.int .i64 a0_3) ∧ w91.cell? ⟨gb183, 0, none⟩ = some (.int .i64 a1_0) ∧ w91.cell? ⟨gb183, 1, none⟩ = some (.int .i64 a1_1) ∧ w91.cell? ⟨gb183, 2, none⟩ = some (.int .i64 a1_2) ∧ w91.cell? ⟨gb183, 3, none⟩ = some (.int .i64 a1_3) := hS_
       refine norm_ (a' := ?_) ?_ ?_
       rotate_left
       ·simp only [putAll, Act.put, List.setIfInBounds_toArray, List.set_cons_zero, List.set_cons_succ]
        rfl
       refine one_ (i := 10) (N := some 10) #[true, true, true, true, true, true, true, true, true, true, true, true, false, false, false] rfl rfl (one_of HT_.out (by kernel_rfl)) (by decide) (fun K hK => ?_)
       refine box_step ?hg (N := 10) ?hd (cs := #[.int .i64 0, .int .i64 0, .int .i64 0, .int .i64 0]) (t := 31) ?hr ?_; (case hd => rfl); (case hg => rfl); (case hr => first | (go_simp; done) | (go_simp; rfl))
       intro gb220 hg w92 hbox hb
       have BK220 := Aside0.mk (hbox); have GW220 := z_gw HB hg; have GE220 := z_gw HB hg; have NB182_220 := z_nl BK182 hg; have NB220_182 := z_ng BK182 hg; have NB183_220 := z_nl BK183 hg; have NB220_183 := z_ng BK183 hg; have NB201_220 := z_nl BK201 hg; have NB220_201 := z_ng BK201 hg; have NB202_220 := z_nl BK202 hg; have NB220_202 := z_ng BK202 hg; have NB221_220 := z_nl BK221 hg; have NB220_221 := z_ng BK221 hg; replace BK182 := z_bk BK182 hb; replace BK183 := z_bk BK183 hb; replace BK201 := z_bk BK201 hb; replace BK202 := z_bk BK202 hb; replace BK221 := z_bk BK221 hb; replace HB := z_bs HB hb
       clear hb hbox hg
       refine hK.out _ _ ⟨z_c BK182 0, z_c BK182 1, z_c BK182 2, z_c BK182 3, z_c BK183 0, z_c BK183 1, z_c BK183 2, z_c BK183 3⟩ (fun hHeld => ?_)
       clear hK K
       refine norm_ (a' := ?_) ?_ ?_
       rotate_left
       ·show Act.put _ (some 10) _ = _
        simp only [Act.put, sp1, sp2, sp3, i64_w, i32_w]
        rfl
       exact z_n (hJ1_3_5_10_11 (gb220, gb221) _ ⟨hHeld, bkw, bkw, bkw, bkw, bkw, bkw, GW220.out, GE220.out, NB182_220.out, NB220_182.out, NB183_220.out, NB220_183.out, NB201_220.out, NB220_201.out, NB202_220.out, NB220_202.out, NB221_220.out, NB220_221.out, GW221.out, GE221.out, NB182_221.out, NB221_182.out, NB183_221.out, NB221_183.out, NB201_221.out, NB221_201.out, NB202_221.out, NB221_202.out, blw⟩)
     ·skip
      rintro gb220 w91 ⟨hS_, h0_, h1_, h2_, h3_, h4_, h5_, h6_, h7_, h8_, h9_, h10_, h11_, h12_, h13_, h14_, h15_⟩
      have n0_ : Aside0 (w91.heap[gb182]? = some (.cells #[.int .i64 a0_0, .int .i64 a0_1, .int .i64 a0_2, .int .i64 a0_3] 30 (0, 0))) := ⟨h0_⟩
      have n1_ : Aside0 (w91.heap[gb183]? = some (.cells #[.int .i64 a1_0, .int .i64 a1_1, .int .i64 a1_2, .int .i64 a1_3] 30 (0, 0))) := ⟨h1_⟩
      have n2_ : Aside0 (w91.heap[gb201]? = some (.cells #[.int .i64 t192, .int .i64 t193, .int .i64 t194, .int .i64 t195] 31 (0, 0))) := ⟨h2_⟩
      have n3_ : Aside0 (w91.heap[gb202]? = some (.cells #[.int .i64 t196, .int .i64 t197, .int .i64 t198, .int .i64 t199] 31 (0, 0))) := ⟨h3_⟩
      have n4_ : Aside0 (w91.heap[gb220]? = some (.cells #[.int .i64 0, .int .i64 0, .int .i64 0, .int .i64 0] 31 (0, 0))) := ⟨h4_⟩
      have n5_ : Aside0 (w.heap.size ≤ gb220) := ⟨h5_⟩
      have n6_ : Aside0 (w.heap.size ≤ gb220) := ⟨h6_⟩
      have n7_ : Aside0 (gb182 ≠ gb220) := ⟨h7_⟩
      have n8_ : Aside0 (gb220 ≠ gb182) := ⟨h8_⟩
      have n9_ : Aside0 (gb183 ≠ gb220) := ⟨h9_⟩
      have n10_ : Aside0 (gb220 ≠ gb183) := ⟨h10_⟩
      have n11_ : Aside0 (gb201 ≠ gb220) := ⟨h11_⟩
      have n12_ : Aside0 (gb220 ≠ gb201) := ⟨h12_⟩
      have n13_ : Aside0 (gb202 ≠ gb220) := ⟨h13_⟩
      have n14_ : Aside0 (gb220 ≠ gb202) := ⟨h14_⟩
      have n15_ : Aside0 (Below w.heap.size w w91) := ⟨h15_⟩
      clear BK182
      clear BK183
      clear BK201
      clear BK202
      clear HB
      clear h0_ h1_ h2_ h3_ h4_ h5_ h6_ h7_ h8_ h9_ h10_ h11_ h12_ h13_ h14_ h15_
      have BK182 := n0_
      have BK183 := n1_
      have BK201 := n2_
      have BK202 := n3_
      have BK220 := n4_
      have GW220 := n5_
      have GE220 := n6_
      have NB182_220 := n7_
      have NB220_182 := n8_
      have NB183_220 := n9_
      have NB220_183 := n10_
      have NB201_220 := n11_
      have NB220_201 := n12_
      have NB202_220 := n13_
      have NB220_202 := n14_
      have HB := n15_
      clear n0_ n1_ n2_ n3_ n4_ n5_ n6_ n7_ n8_ n9_ n10_ n11_ n12_ n13_ n14_ n15_
      have hHeld : w91.cell? ⟨gb182, 0, none⟩ = some (.int .i64 a0_0) ∧ w91.cell? ⟨gb182, 1, none⟩ = some (.int .i64 a0_1) ∧ w91.cell? ⟨gb182, 2, none⟩ = some (.int .i64 a0_2) ∧ w91.cell? ⟨gb182, 3, none⟩ = some (.int .i64 a0_3) ∧ w91.cell? ⟨gb183, 0, none⟩ = some (.int .i64 a1_0) ∧ w91.cell? ⟨gb183, 1, none⟩ = some (.int .i64 a1_1) ∧ w91.cell? ⟨gb183, 2, none⟩ = some (.int .i64 a1_2) ∧ w91.cell? ⟨gb183, 3, none⟩ = some (.int .i64 a1_3) := hS_
      refine norm_ (a' := ?_) ?_ ?_
      rotate_left
      ·simp only [putAll, Act.put, List.setIfInBounds_toArray, List.set_cons_zero, List.set_cons_succ]
       rfl
      refine one_ (i := 11) (N := some 11) #[true, true, true, true, true, true, true, true, true, true, true, true, false, false, false] rfl rfl (one_of HT_.out (by kernel_rfl)) (by decide) (fun K hK => ?_)
      refine box_step ?hg (N := 11) ?hd (cs := #[.int .i64 0, .int .i64 0, .int .i64 0, .int .i64 0]) (t := 31) ?hr ?_; (case hd => rfl); (case hg => rfl); (case hr => first | (go_simp; done) | (go_simp; rfl))
      intro gb221 hg w92 hbox hb
      have BK221 := Aside0.mk (hbox); have GW221 := z_gw HB hg; have GE221 := z_gw HB hg; have NB182_221 := z_nl BK182 hg; have NB221_182 := z_ng BK182 hg; have NB183_221 := z_nl BK183 hg; have NB221_183 := z_ng BK183 hg; have NB201_221 := z_nl BK201 hg; have NB221_201 := z_ng BK201 hg; have NB202_221 := z_nl BK202 hg; have NB221_202 := z_ng BK202 hg; have NB220_221 := z_nl BK220 hg; have NB221_220 := z_ng BK220 hg; replace BK182 := z_bk BK182 hb; replace BK183 := z_bk BK183 hb; replace BK201 := z_bk BK201 hb; replace BK202 := z_bk BK202 hb; replace BK220 := z_bk BK220 hb; replace HB := z_bs HB hb
      clear hb hbox hg
      refine hK.out _ _ ⟨z_c BK182 0, z_c BK182 1, z_c BK182 2, z_c BK182 3, z_c BK183 0, z_c BK183 1, z_c BK183 2, z_c BK183 3⟩ (fun hHeld => ?_)
      clear hK K
      refine norm_ (a' := ?_) ?_ ?_
      rotate_left
      ·show Act.put _ (some 11) _ = _
       simp only [Act.put, sp1, sp2, sp3, i64_w, i32_w]
       rfl
      exact z_n (hJ1_3_5_10_11 (gb220, gb221) _ ⟨hHeld, bkw, bkw, bkw, bkw, bkw, bkw, GW220.out, GE220.out, NB182_220.out, NB220_182.out, NB183_220.out, NB220_183.out, NB201_220.out, NB220_201.out, NB202_220.out, NB220_202.out, NB221_220.out, NB220_221.out, GW221.out, GE221.out, NB182_221.out, NB221_182.out, NB183_221.out, NB221_183.out, NB201_221.out, NB221_201.out, NB202_221.out, NB221_202.out, blw⟩)
    rintro ⟨gb220, gb221⟩ w92 ⟨hS_, h0_, h1_, h2_, h3_, h4_, h5_, h6_, h7_, h8_, h9_, h10_, h11_, h12_, h13_, h14_, h15_, h16_, h17_, h18_, h19_, h20_, h21_, h22_, h23_, h24_, h25_, h26_, h27_, h28_⟩
    have n0_ : Aside0 (w92.heap[gb182]? = some (.cells #[.int .i64 a0_0, .int .i64 a0_1, .int .i64 a0_2, .int .i64 a0_3] 30 (0, 0))) := ⟨h0_⟩
    have n1_ : Aside0 (w92.heap[gb183]? = some (.cells #[.int .i64 a1_0, .int .i64 a1_1, .int .i64 a1_2, .int .i64 a1_3] 30 (0, 0))) := ⟨h1_⟩
    have n2_ : Aside0 (w92.heap[gb201]? = some (.cells #[.int .i64 t192, .int .i64 t193, .int .i64 t194, .int .i64 t195] 31 (0, 0))) := ⟨h2_⟩
    have n3_ : Aside0 (w92.heap[gb202]? = some (.cells #[.int .i64 t196, .int .i64 t197, .int .i64 t198, .int .i64 t199] 31 (0, 0))) := ⟨h3_⟩
    have n4_ : Aside0 (w92.heap[gb220]? = some (.cells #[.int .i64 0, .int .i64 0, .int .i64 0, .int .i64 0] 31 (0, 0))) := ⟨h4_⟩
    have n5_ : Aside0 (w92.heap[gb221]? = some (.cells #[.int .i64 0, .int .i64 0, .int .i64 0, .int .i64 0] 31 (0, 0))) := ⟨h5_⟩
    have n6_ : Aside0 (w.heap.size ≤ gb220) := ⟨h6_⟩
    have n7_ : Aside0 (w.heap.size ≤ gb220) := ⟨h7_⟩
    have n8_ : Aside0 (gb182 ≠ gb220) := ⟨h8_⟩
    have n9_ : Aside0 (gb220 ≠ gb182) := ⟨h9_⟩
    have n10_ : Aside0 (gb183 ≠ gb220) := ⟨h10_⟩
    have n11_ : Aside0 (gb220 ≠ gb183) := ⟨h11_⟩
    have n12_ : Aside0 (gb201 ≠ gb220) := ⟨h12_⟩
    have n13_ : Aside0 (gb220 ≠ gb201) := ⟨h13_⟩
    have n14_ : Aside0 (gb202 ≠ gb220) := ⟨h14_⟩
    have n15_ : Aside0 (gb220 ≠ gb202) := ⟨h15_⟩
    have n16_ : Aside0 (gb221 ≠ gb220) := ⟨h16_⟩
    have n17_ : Aside0 (gb220 ≠ gb221) := ⟨h17_⟩
    have n18_ : Aside0 (w.heap.size ≤ gb221) := ⟨h18_⟩
    have n19_ : Aside0 (w.heap.size ≤ gb221) := ⟨h19_⟩
    have n20_ : Aside0 (gb182 ≠ gb221) := ⟨h20_⟩
    have n21_ : Aside0 (gb221 ≠ gb182) := ⟨h21_⟩
    have n22_ : Aside0 (gb183 ≠ gb221) := ⟨h22_⟩
    have n23_ : Aside0 (gb221 ≠ gb183) := ⟨h23_⟩
    have n24_ : Aside0 (gb201 ≠ gb221) := ⟨h24_⟩
    have n25_ : Aside0 (gb221 ≠ gb201) := ⟨h25_⟩
    have n26_ : Aside0 (gb202 ≠ gb221) := ⟨h26_⟩
    have n27_ : Aside0 (gb221 ≠ gb202) := ⟨h27_⟩
    have n28_ : Aside0 (Below w.heap.size w w92) := ⟨h28_⟩
    clear BK182
    clear BK183
    clear BK201
    clear BK202
    clear HB
    clear h0_ h1_ h2_ h3_ h4_ h5_ h6_ h7_ h8_ h9_ h10_ h11_ h12_ h13_ h14_ h15_ h16_ h17_ h18_ h19_ h20_ h21_ h22_ h23_ h24_ h25_ h26_ h27_ h28_
    have BK182 := n0_
    have BK183 := n1_
    have BK201 := n2_
    have BK202 := n3_
    have BK220 := n4_
    have BK221 := n5_
    have GW220 := n6_
    have GE220 := n7_
    have NB182_220 := n8_
    have NB220_182 := n9_
    have NB183_220 := n10_
    have NB220_183 := n11_
    have NB201_220 := n12_
    have NB220_201 := n13_
    have NB202_220 := n14_
    have NB220_202 := n15_
    have NB221_220 := n16_
    have NB220_221 := n17_
    have GW221 := n18_
    have GE221 := n19_
    have NB182_221 := n20_
    have NB221_182 := n21_
    have NB183_221 := n22_
    have NB221_183 := n23_
    have NB201_221 := n24_
    have NB221_201 := n25_
    have NB202_221 := n26_
    have NB221_202 := n27_
    have HB := n28_
    clear n0_ n1_ n2_ n3_ n4_ n5_ n6_ n7_ n8_ n9_ n10_ n11_ n12_ n13_ n14_ n15_ n16_ n17_ n18_ n19_ n20_ n21_ n22_ n23_ n24_ n25_ n26_ n27_ n28_
    have hHeld : w92.cell? ⟨gb182, 0, none⟩ = some (.int .i64 a0_0) ∧ w92.cell? ⟨gb182, 1, none⟩ = some (.int .i64 a0_1) ∧ w92.cell? ⟨gb182, 2, none⟩ = some (.int .i64 a0_2) ∧ w92.cell? ⟨gb182, 3, none⟩ = some (.int .i64 a0_3) ∧ w92.cell? ⟨gb183, 0, none⟩ = some (.int .i64 a1_0) ∧ w92.cell? ⟨gb183, 1, none⟩ = some (.int .i64 a1_1) ∧ w92.cell? ⟨gb183, 2, none⟩ = some (.int .i64 a1_2) ∧ w92.cell? ⟨gb183, 3, none⟩ = some (.int .i64 a1_3) := hS_
    refine norm_ (a' := ?_) ?_ ?_
    rotate_left
    ·simp only [putAll, Act.put, List.setIfInBounds_toArray, List.set_cons_zero, List.set_cons_succ]
     rfl
    refine one_ (i := 12) (N := none) #[true, true, true, true, true, true, true, true, true, true, true, true, true, false, false] rfl rfl (one_of HT_.out (by kernel_rfl)) (by decide) (fun K hK => ?_)
    have hs93 : w92.cell? ⟨gb220, 0, none⟩ = some (.int .i64 0) := z_c BK220 0
    have hfs93 := blk_frozen BK220.out 0
    have hns93_0 := NB182_220.out
    have hns93_1 := NB183_220.out
    have hns93_2 := NB201_220.out
    have hns93_3 := NB202_220.out
    have hns93_5 := NB221_220.out
    have hms93_0 := NB220_182.out
    have hms93_1 := NB220_183.out
    have hms93_2 := NB220_201.out
    have hms93_3 := NB220_202.out
    have hms93_5 := NB220_221.out
    have hs94 : w92.cell? ⟨gb220, 1, none⟩ = some (.int .i64 0) := z_c BK220 1
    have hfs94 := blk_frozen BK220.out 1
    have hns94_0 := NB182_220.out
    have hns94_1 := NB183_220.out
    have hns94_2 := NB201_220.out
    have hns94_3 := NB202_220.out
    have hns94_5 := NB221_220.out
    have hms94_0 := NB220_182.out
    have hms94_1 := NB220_183.out
    have hms94_2 := NB220_201.out
    have hms94_3 := NB220_202.out
    have hms94_5 := NB220_221.out
    have hs95 : w92.cell? ⟨gb220, 2, none⟩ = some (.int .i64 0) := z_c BK220 2
    have hfs95 := blk_frozen BK220.out 2
    have hns95_0 := NB182_220.out
    have hns95_1 := NB183_220.out
    have hns95_2 := NB201_220.out
    have hns95_3 := NB202_220.out
    have hns95_5 := NB221_220.out
    have hms95_0 := NB220_182.out
    have hms95_1 := NB220_183.out
    have hms95_2 := NB220_201.out
    have hms95_3 := NB220_202.out
    have hms95_5 := NB220_221.out
    have hs96 : w92.cell? ⟨gb220, 3, none⟩ = some (.int .i64 0) := z_c BK220 3
    have hfs96 := blk_frozen BK220.out 3
    have hns96_0 := NB182_220.out
    have hns96_1 := NB183_220.out
    have hns96_2 := NB201_220.out
    have hns96_3 := NB202_220.out
    have hns96_5 := NB221_220.out
    have hms96_0 := NB220_182.out
    have hms96_1 := NB220_183.out
    have hms96_2 := NB220_201.out
    have hms96_3 := NB220_202.out
    have hms96_5 := NB220_221.out
    refine skip_ (w1 := ?_) (by rfl) rfl ?_ ?_
    rotate_left
    ·go_simp
     rfl
    refine hK.out _ _ ⟨((cell_far (p := ⟨gb220, _, none⟩) NB182_220.out _).trans (((cell_far (p := ⟨gb220, _, none⟩) NB182_220.out _).trans (((cell_far (p := ⟨gb220, _, none⟩) NB182_220.out _).trans (((cell_far (p := ⟨gb220, _, none⟩) NB182_220.out _).trans (hHeld.1)))))))), ((cell_far (p := ⟨gb220, _, none⟩) NB182_220.out _).trans (((cell_far (p := ⟨gb220, _, none⟩) NB182_220.out _).trans (((cell_far (p := ⟨gb220, _, none⟩) NB182_220.out _).trans (((cell_far (p := ⟨gb220, _, none⟩) NB182_220.out _).trans (hHeld.2.1)))))))), ((cell_far (p := ⟨gb220, _, none⟩) NB182_220.out _).trans (((cell_far (p := ⟨gb220, _, none⟩) NB182_220.out _).trans (((cell_far (p := ⟨gb220, _, none⟩) NB182_220.out _).trans (((cell_far (p := ⟨gb220, _, none⟩) NB182_220.out _).trans (hHeld.2.2.1)))))))), ((cell_far (p := ⟨gb220, _, none⟩) NB182_220.out _).trans (((cell_far (p := ⟨gb220, _, none⟩) NB182_220.out _).trans (((cell_far (p := ⟨gb220, _, none⟩) NB182_220.out _).trans (((cell_far (p := ⟨gb220, _, none⟩) NB182_220.out _).trans (hHeld.2.2.2.1)))))))), ((cell_far (p := ⟨gb220, _, none⟩) NB183_220.out _).trans (((cell_far (p := ⟨gb220, _, none⟩) NB183_220.out _).trans (((cell_far (p := ⟨gb220, _, none⟩) NB183_220.out _).trans (((cell_far (p := ⟨gb220, _, none⟩) NB183_220.out _).trans (hHeld.2.2.2.2.1)))))))), ((cell_far (p := ⟨gb220, _, none⟩) NB183_220.out _).trans (((cell_far (p := ⟨gb220, _, none⟩) NB183_220.out _).trans (((cell_far (p := ⟨gb220, _, none⟩) NB183_220.out _).trans (((cell_far (p := ⟨gb220, _, none⟩) NB183_220.out _).trans (hHeld.2.2.2.2.2.1)))))))), ((cell_far (p := ⟨gb220, _, none⟩) NB183_220.out _).trans (((cell_far (p := ⟨gb220, _, none⟩) NB183_220.out _).trans (((cell_far (p := ⟨gb220, _, none⟩) NB183_220.out _).trans (((cell_far (p := ⟨gb220, _, none⟩) NB183_220.out _).trans (hHeld.2.2.2.2.2.2.1)))))))), ((cell_far (p := ⟨gb220, _, none⟩) NB183_220.out _).trans (((cell_far (p := ⟨gb220, _, none⟩) NB183_220.out _).trans (((cell_far (p := ⟨gb220, _, none⟩) NB183_220.out _).trans (((cell_far (p := ⟨gb220, _, none⟩) NB183_220.out _).trans (hHeld.2.2.2.2.2.2.2))))))))⟩ (fun hHeld => ?_)
    clear hK K
    refine one_ (i := 13) (N := none) #[true, true, true, true, true, true, true, true, true, true, true, true, true, true, false] rfl rfl (one_of HT_.out (by kernel_rfl)) (by decide) (fun K hK => ?_)
    have hs97 : w92.cell? ⟨gb221, 0, none⟩ = some (.int .i64 0) := z_c BK221 0
    have hfs97 := blk_frozen BK221.out 0
    have hns97_0 := NB182_221.out
    have hns97_1 := NB183_221.out
    have hns97_2 := NB201_221.out
    have hns97_3 := NB202_221.out
    have hns97_4 := NB220_221.out
    have hms97_0 := NB221_182.out
    have hms97_1 := NB221_183.out
    have hms97_2 := NB221_201.out
    have hms97_3 := NB221_202.out
    have hms97_4 := NB221_220.out
    have hs98 : w92.cell? ⟨gb221, 1, none⟩ = some (.int .i64 0) := z_c BK221 1
    have hfs98 := blk_frozen BK221.out 1
    have hns98_0 := NB182_221.out
    have hns98_1 := NB183_221.out
    have hns98_2 := NB201_221.out
    have hns98_3 := NB202_221.out
    have hns98_4 := NB220_221.out
    have hms98_0 := NB221_182.out
    have hms98_1 := NB221_183.out
    have hms98_2 := NB221_201.out
    have hms98_3 := NB221_202.out
    have hms98_4 := NB221_220.out
    have hs99 : w92.cell? ⟨gb221, 2, none⟩ = some (.int .i64 0) := z_c BK221 2
    have hfs99 := blk_frozen BK221.out 2
    have hns99_0 := NB182_221.out
    have hns99_1 := NB183_221.out
    have hns99_2 := NB201_221.out
    have hns99_3 := NB202_221.out
    have hns99_4 := NB220_221.out
    have hms99_0 := NB221_182.out
    have hms99_1 := NB221_183.out
    have hms99_2 := NB221_201.out
    have hms99_3 := NB221_202.out
    have hms99_4 := NB221_220.out
    have hs100 : w92.cell? ⟨gb221, 3, none⟩ = some (.int .i64 0) := z_c BK221 3
    have hfs100 := blk_frozen BK221.out 3
    have hns100_0 := NB182_221.out
    have hns100_1 := NB183_221.out
    have hns100_2 := NB201_221.out
    have hns100_3 := NB202_221.out
    have hns100_4 := NB220_221.out
    have hms100_0 := NB221_182.out
    have hms100_1 := NB221_183.out
    have hms100_2 := NB221_201.out
    have hms100_3 := NB221_202.out
    have hms100_4 := NB221_220.out
    refine skip_ (w1 := ?_) (by rfl) rfl ?_ ?_
    rotate_left
    ·go_simp
     rfl
    refine hK.out _ _ ⟨((cell_far (p := ⟨gb221, _, none⟩) NB182_221.out _).trans (((cell_far (p := ⟨gb221, _, none⟩) NB182_221.out _).trans (((cell_far (p := ⟨gb221, _, none⟩) NB182_221.out _).trans (((cell_far (p := ⟨gb221, _, none⟩) NB182_221.out _).trans (hHeld.1)))))))), ((cell_far (p := ⟨gb221, _, none⟩) NB182_221.out _).trans (((cell_far (p := ⟨gb221, _, none⟩) NB182_221.out _).trans (((cell_far (p := ⟨gb221, _, none⟩) NB182_221.out _).trans (((cell_far (p := ⟨gb221, _, none⟩) NB182_221.out _).trans (hHeld.2.1)))))))), ((cell_far (p := ⟨gb221, _, none⟩) NB182_221.out _).trans (((cell_far (p := ⟨gb221, _, none⟩) NB182_221.out _).trans (((cell_far (p := ⟨gb221, _, none⟩) NB182_221.out _).trans (((cell_far (p := ⟨gb221, _, none⟩) NB182_221.out _).trans (hHeld.2.2.1)))))))), ((cell_far (p := ⟨gb221, _, none⟩) NB182_221.out _).trans (((cell_far (p := ⟨gb221, _, none⟩) NB182_221.out _).trans (((cell_far (p := ⟨gb221, _, none⟩) NB182_221.out _).trans (((cell_far (p := ⟨gb221, _, none⟩) NB182_221.out _).trans (hHeld.2.2.2.1)))))))), ((cell_far (p := ⟨gb221, _, none⟩) NB183_221.out _).trans (((cell_far (p := ⟨gb221, _, none⟩) NB183_221.out _).trans (((cell_far (p := ⟨gb221, _, none⟩) NB183_221.out _).trans (((cell_far (p := ⟨gb221, _, none⟩) NB183_221.out _).trans (hHeld.2.2.2.2.1)))))))), ((cell_far (p := ⟨gb221, _, none⟩) NB183_221.out _).trans (((cell_far (p := ⟨gb221, _, none⟩) NB183_221.out _).trans (((cell_far (p := ⟨gb221, _, none⟩) NB183_221.out _).trans (((cell_far (p := ⟨gb221, _, none⟩) NB183_221.out _).trans (hHeld.2.2.2.2.2.1)))))))), ((cell_far (p := ⟨gb221, _, none⟩) NB183_221.out _).trans (((cell_far (p := ⟨gb221, _, none⟩) NB183_221.out _).trans (((cell_far (p := ⟨gb221, _, none⟩) NB183_221.out _).trans (((cell_far (p := ⟨gb221, _, none⟩) NB183_221.out _).trans (hHeld.2.2.2.2.2.2.1)))))))), ((cell_far (p := ⟨gb221, _, none⟩) NB183_221.out _).trans (((cell_far (p := ⟨gb221, _, none⟩) NB183_221.out _).trans (((cell_far (p := ⟨gb221, _, none⟩) NB183_221.out _).trans (((cell_far (p := ⟨gb221, _, none⟩) NB183_221.out _).trans (hHeld.2.2.2.2.2.2.2))))))))⟩ (fun hHeld => ?_)
    clear hK K
    refine pure_ (i := 14) (N := some 12) (v := ?_) (a' := ?_) #[true, true, true, true, true, true, true, true, true, true, true, true, true, true, true] rfl rfl (any_of HT_.out (by kernel_rfl)) (fun _ _ _ h => h) (Or.inl ⟨by rfl, ?_⟩) ?_ ?_
    rotate_left
    ·intro w'
     go_simp
     with_reducible rfl
    rotate_left
    ·simp only [Act.put, sp1, sp2, sp3, i64_w, i32_w]
     rfl
    refine done_ (done_of HT_.out (by kernel_rfl)) ?_
    have hnb101 := NB220_182.out
    have hnc101 := NB182_220.out
    have hnb102 := NB220_183.out
    have hnc102 := NB183_220.out
    have hnb103 := NB220_201.out
    have hnc103 := NB201_220.out
    have hnb104 := NB220_202.out
    have hnc104 := NB202_220.out
    have hnb105 := NB220_221.out
    have hnc105 := NB221_220.out
    have hcz106_0 : w92.cell? ⟨gb220, 0, none⟩ = some (.int .i64 0) := z_c BK220 0
    have hcz106_1 : w92.cell? ⟨gb220, 1, none⟩ = some (.int .i64 0) := z_c BK220 1
    have hcz106_2 : w92.cell? ⟨gb220, 2, none⟩ = some (.int .i64 0) := z_c BK220 2
    have hcz106_3 : w92.cell? ⟨gb220, 3, none⟩ = some (.int .i64 0) := z_c BK220 3
    have hfz106_0 := blk_frozen BK220.out 0
    have hfz106_1 := blk_frozen BK220.out 1
    have hfz106_2 := blk_frozen BK220.out 2
    have hfz106_3 := blk_frozen BK220.out 3
    have hnb107 := NB201_182.out
    have hnc107 := NB182_201.out
    have hnb108 := NB201_183.out
    have hnc108 := NB183_201.out
    have hnb109 := NB201_202.out
    have hnc109 := NB202_201.out
    have hnb110 := NB201_221.out
    have hnc110 := NB221_201.out
    have hcz111_0 : w92.cell? ⟨gb201, 0, none⟩ = some (.int .i64 t192) := z_c BK201 0
    have hcz111_1 : w92.cell? ⟨gb201, 1, none⟩ = some (.int .i64 t193) := z_c BK201 1
    have hcz111_2 : w92.cell? ⟨gb201, 2, none⟩ = some (.int .i64 t194) := z_c BK201 2
    have hcz111_3 : w92.cell? ⟨gb201, 3, none⟩ = some (.int .i64 t195) := z_c BK201 3
    have hfz111_0 := blk_frozen BK201.out 0
    have hfz111_1 := blk_frozen BK201.out 1
    have hfz111_2 := blk_frozen BK201.out 2
    have hfz111_3 := blk_frozen BK201.out 3
    try go_wp2_with (first | ((with_reducible refine gate_callee (f := 23) rfl ?_); refine goesL_ (some 35) rfl rfl Try.func23 (by kernel_rfl) rfl #[.agg #[.int .i64 t211, .int .i64 t212, .int .i64 t213, .int .i64 t214], .agg #[.int .i64 t192, .int .i64 t193, .int .i64 t194, .int .i64 t195]] rfl (by (try simp only [List.map_toArray, List.map_cons, List.map_nil]); first | done | rfl | (simp only [List.length_drop, List.length_take]; rfl)) ?_; (with_reducible refine (laws_eqBody.calls t211 t212 t213 t214 t192 t193 t194 t195 true _ A10.out).mono ?_); rintro e w112 ⟨rfl, hb⟩; refine ⟨_, rfl, ?_⟩; have n0_ := Aside0.mk (blk_below (g := gb182) (o := .cells #[.int .i64 a0_0, .int .i64 a0_1, .int .i64 a0_2, .int .i64 a0_3] 30 (0, 0)) (by (with_reducible repeat (first | refine blk_drewN ?_ _ | refine blk_drew ?_ | refine blk_alloc ?_ _)); refine blk_far ?_ NB182_221.out _; (with_reducible repeat (first | refine blk_drewN ?_ _ | refine blk_drew ?_ | refine blk_alloc ?_ _)); refine blk_far ?_ NB182_221.out _; (with_reducible repeat (first | refine blk_drewN ?_ _ | refine blk_drew ?_ | refine blk_alloc ?_ _)); refine blk_far ?_ NB182_221.out _; (with_reducible repeat (first | refine blk_drewN ?_ _ | refine blk_drew ?_ | refine blk_alloc ?_ _)); refine blk_far ?_ NB182_221.out _; (with_reducible repeat (first | refine blk_drewN ?_ _ | refine blk_drew ?_ | refine blk_alloc ?_ _)); refine blk_far ?_ NB182_220.out _; (with_reducible repeat (first | refine blk_drewN ?_ _ | refine blk_drew ?_ | refine blk_alloc ?_ _)); refine blk_far ?_ NB182_220.out _; (with_reducible repeat (first | refine blk_drewN ?_ _ | refine blk_drew ?_ | refine blk_alloc ?_ _)); refine blk_far ?_ NB182_220.out _; (with_reducible repeat (first | refine blk_drewN ?_ _ | refine blk_drew ?_ | refine blk_alloc ?_ _)); refine blk_far ?_ NB182_220.out _; (with_reducible repeat (first | refine blk_drewN ?_ _ | refine blk_drew ?_ | refine blk_alloc ?_ _)); exact BK182.out) hb); have n1_ := Aside0.mk (blk_below (g := gb183) (o := .cells #[.int .i64 a1_0, .int .i64 a1_1, .int .i64 a1_2, .int .i64 a1_3] 30 (0, 0)) (by (with_reducible repeat (first | refine blk_drewN ?_ _ | refine blk_drew ?_ | refine blk_alloc ?_ _)); refine blk_far ?_ NB183_221.out _; (with_reducible repeat (first | refine blk_drewN ?_ _ | refine blk_drew ?_ | refine blk_alloc ?_ _)); refine blk_far ?_ NB183_221.out _; (with_reducible repeat (first | refine blk_drewN ?_ _ | refine blk_drew ?_ | refine blk_alloc ?_ _)); refine blk_far ?_ NB183_221.out _; (with_reducible repeat (first | refine blk_drewN ?_ _ | refine blk_drew ?_ | refine blk_alloc ?_ _)); refine blk_far ?_ NB183_221.out _; (with_reducible repeat (first | refine blk_drewN ?_ _ | refine blk_drew ?_ | refine blk_alloc ?_ _)); refine blk_far ?_ NB183_220.out _; (with_reducible repeat (first | refine blk_drewN ?_ _ | refine blk_drew ?_ | refine blk_alloc ?_ _)); refine blk_far ?_ NB183_220.out _; (with_reducible repeat (first | refine blk_drewN ?_ _ | refine blk_drew ?_ | refine blk_alloc ?_ _)); refine blk_far ?_ NB183_220.out _; (with_reducible repeat (first | refine blk_drewN ?_ _ | refine blk_drew ?_ | refine blk_alloc ?_ _)); refine blk_far ?_ NB183_220.out _; (with_reducible repeat (first | refine blk_drewN ?_ _ | refine blk_drew ?_ | refine blk_alloc ?_ _)); exact BK183.out) hb); have n2_ := Aside0.mk (blk_below (g := gb201) (o := .cells #[.int .i64 t192, .int .i64 t193, .int .i64 t194, .int .i64 t195] 31 (0, 0)) (by (with_reducible repeat (first | refine blk_drewN ?_ _ | refine blk_drew ?_ | refine blk_alloc ?_ _)); refine blk_far ?_ NB201_221.out _; (with_reducible repeat (first | refine blk_drewN ?_ _ | refine blk_drew ?_ | refine blk_alloc ?_ _)); refine blk_far ?_ NB201_221.out _; (with_reducible repeat (first | refine blk_drewN ?_ _ | refine blk_drew ?_ | refine blk_alloc ?_ _)); refine blk_far ?_ NB201_221.out _; (with_reducible repeat (first | refine blk_drewN ?_ _ | refine blk_drew ?_ | refine blk_alloc ?_ _)); refine blk_far ?_ NB201_221.out _; (with_reducible repeat (first | refine blk_drewN ?_ _ | refine blk_drew ?_ | refine blk_alloc ?_ _)); refine blk_far ?_ NB201_220.out _; (with_reducible repeat (first | refine blk_drewN ?_ _ | refine blk_drew ?_ | refine blk_alloc ?_ _)); refine blk_far ?_ NB201_220.out _; (with_reducible repeat (first | refine blk_drewN ?_ _ | refine blk_drew ?_ | refine blk_alloc ?_ _)); refine blk_far ?_ NB201_220.out _; (with_reducible repeat (first | refine blk_drewN ?_ _ | refine blk_drew ?_ | refine blk_alloc ?_ _)); refine blk_far ?_ NB201_220.out _; (with_reducible repeat (first | refine blk_drewN ?_ _ | refine blk_drew ?_ | refine blk_alloc ?_ _)); exact BK201.out) hb); have n3_ := Aside0.mk (blk_below (g := gb202) (o := .cells #[.int .i64 t196, .int .i64 t197, .int .i64 t198, .int .i64 t199] 31 (0, 0)) (by (with_reducible repeat (first | refine blk_drewN ?_ _ | refine blk_drew ?_ | refine blk_alloc ?_ _)); refine blk_far ?_ NB202_221.out _; (with_reducible repeat (first | refine blk_drewN ?_ _ | refine blk_drew ?_ | refine blk_alloc ?_ _)); refine blk_far ?_ NB202_221.out _; (with_reducible repeat (first | refine blk_drewN ?_ _ | refine blk_drew ?_ | refine blk_alloc ?_ _)); refine blk_far ?_ NB202_221.out _; (with_reducible repeat (first | refine blk_drewN ?_ _ | refine blk_drew ?_ | refine blk_alloc ?_ _)); refine blk_far ?_ NB202_221.out _; (with_reducible repeat (first | refine blk_drewN ?_ _ | refine blk_drew ?_ | refine blk_alloc ?_ _)); refine blk_far ?_ NB202_220.out _; (with_reducible repeat (first | refine blk_drewN ?_ _ | refine blk_drew ?_ | refine blk_alloc ?_ _)); refine blk_far ?_ NB202_220.out _; (with_reducible repeat (first | refine blk_drewN ?_ _ | refine blk_drew ?_ | refine blk_alloc ?_ _)); refine blk_far ?_ NB202_220.out _; (with_reducible repeat (first | refine blk_drewN ?_ _ | refine blk_drew ?_ | refine blk_alloc ?_ _)); refine blk_far ?_ NB202_220.out _; (with_reducible repeat (first | refine blk_drewN ?_ _ | refine blk_drew ?_ | refine blk_alloc ?_ _)); exact BK202.out) hb); have n4_ := Aside0.mk (blk_below (g := gb220) (o := .cells #[.int .i64 t211, .int .i64 t212, .int .i64 t213, .int .i64 t214] 31 (0, 0)) (by (with_reducible repeat (first | refine blk_drewN ?_ _ | refine blk_drew ?_ | refine blk_alloc ?_ _)); refine blk_far ?_ NB220_221.out _; (with_reducible repeat (first | refine blk_drewN ?_ _ | refine blk_drew ?_ | refine blk_alloc ?_ _)); refine blk_far ?_ NB220_221.out _; (with_reducible repeat (first | refine blk_drewN ?_ _ | refine blk_drew ?_ | refine blk_alloc ?_ _)); refine blk_far ?_ NB220_221.out _; (with_reducible repeat (first | refine blk_drewN ?_ _ | refine blk_drew ?_ | refine blk_alloc ?_ _)); refine blk_far ?_ NB220_221.out _; (with_reducible repeat (first | refine blk_drewN ?_ _ | refine blk_drew ?_ | refine blk_alloc ?_ _)); refine blk_put (cs := #[.int .i64 t211, .int .i64 t212, .int .i64 t213, .int .i64 0]) ?_ 3 _ rfl; (with_reducible repeat (first | refine blk_drewN ?_ _ | refine blk_drew ?_ | refine blk_alloc ?_ _)); refine blk_put (cs := #[.int .i64 t211, .int .i64 t212, .int .i64 0, .int .i64 0]) ?_ 2 _ rfl; (with_reducible repeat (first | refine blk_drewN ?_ _ | refine blk_drew ?_ | refine blk_alloc ?_ _)); refine blk_put (cs := #[.int .i64 t211, .int .i64 0, .int .i64 0, .int .i64 0]) ?_ 1 _ rfl; (with_reducible repeat (first | refine blk_drewN ?_ _ | refine blk_drew ?_ | refine blk_alloc ?_ _)); refine blk_put (cs := #[.int .i64 0, .int .i64 0, .int .i64 0, .int .i64 0]) ?_ 0 _ rfl; (with_reducible repeat (first | refine blk_drewN ?_ _ | refine blk_drew ?_ | refine blk_alloc ?_ _)); exact BK220.out) hb); have n5_ := Aside0.mk (blk_below (g := gb221) (o := .cells #[.int .i64 t215, .int .i64 t216, .int .i64 t217, .int .i64 t218] 31 (0, 0)) (by (with_reducible repeat (first | refine blk_drewN ?_ _ | refine blk_drew ?_ | refine blk_alloc ?_ _)); refine blk_put (cs := #[.int .i64 t215, .int .i64 t216, .int .i64 t217, .int .i64 0]) ?_ 3 _ rfl; (with_reducible repeat (first | refine blk_drewN ?_ _ | refine blk_drew ?_ | refine blk_alloc ?_ _)); refine blk_put (cs := #[.int .i64 t215, .int .i64 t216, .int .i64 0, .int .i64 0]) ?_ 2 _ rfl; (with_reducible repeat (first | refine blk_drewN ?_ _ | refine blk_drew ?_ | refine blk_alloc ?_ _)); refine blk_put (cs := #[.int .i64 t215, .int .i64 0, .int .i64 0, .int .i64 0]) ?_ 1 _ rfl; (with_reducible repeat (first | refine blk_drewN ?_ _ | refine blk_drew ?_ | refine blk_alloc ?_ _)); refine blk_put (cs := #[.int .i64 0, .int .i64 0, .int .i64 0, .int .i64 0]) ?_ 0 _ rfl; (with_reducible repeat (first | refine blk_drewN ?_ _ | refine blk_drew ?_ | refine blk_alloc ?_ _)); refine blk_far ?_ NB221_220.out _; (with_reducible repeat (first | refine blk_drewN ?_ _ | refine blk_drew ?_ | refine blk_alloc ?_ _)); refine blk_far ?_ NB221_220.out _; (with_reducible repeat (first | refine blk_drewN ?_ _ | refine blk_drew ?_ | refine blk_alloc ?_ _)); refine blk_far ?_ NB221_220.out _; (with_reducible repeat (first | refine blk_drewN ?_ _ | refine blk_drew ?_ | refine blk_alloc ?_ _)); refine blk_far ?_ NB221_220.out _; (with_reducible repeat (first | refine blk_drewN ?_ _ | refine blk_drew ?_ | refine blk_alloc ?_ _)); exact BK221.out) hb); have n6_ := z_bs HB hb; clear BK182; clear BK183; clear BK201; clear BK202; clear BK220; clear BK221; clear HB; have BK182 := n0_; have BK183 := n1_; have BK201 := n2_; have BK202 := n3_; have BK220 := n4_; have BK221 := n5_; have HB := n6_; clear n0_ n1_ n2_ n3_ n4_ n5_ n6_; (try clear hb); (try clear hb2); (try clear hk); (try clear hi); have hnb113 := NB221_182.out; have hnc113 := NB182_221.out; have hnb114 := NB221_183.out; have hnc114 := NB183_221.out; have hnb115 := NB221_202.out; have hnc115 := NB202_221.out; have hcz116_0 : w112.cell? ⟨gb221, 0, none⟩ = some (.int .i64 t215) := z_c BK221 0; have hcz116_1 : w112.cell? ⟨gb221, 1, none⟩ = some (.int .i64 t216) := z_c BK221 1; have hcz116_2 : w112.cell? ⟨gb221, 2, none⟩ = some (.int .i64 t217) := z_c BK221 2; have hcz116_3 : w112.cell? ⟨gb221, 3, none⟩ = some (.int .i64 t218) := z_c BK221 3; have hfz116_0 := blk_frozen BK221.out 0; have hfz116_1 := blk_frozen BK221.out 1; have hfz116_2 := blk_frozen BK221.out 2; have hfz116_3 := blk_frozen BK221.out 3; have hnb117 := NB202_182.out; have hnc117 := NB182_202.out; have hnb118 := NB202_183.out; have hnc118 := NB183_202.out; have hcz119_0 : w112.cell? ⟨gb202, 0, none⟩ = some (.int .i64 t196) := z_c BK202 0; have hcz119_1 : w112.cell? ⟨gb202, 1, none⟩ = some (.int .i64 t197) := z_c BK202 1; have hcz119_2 : w112.cell? ⟨gb202, 2, none⟩ = some (.int .i64 t198) := z_c BK202 2; have hcz119_3 : w112.cell? ⟨gb202, 3, none⟩ = some (.int .i64 t199) := z_c BK202 3; have hfz119_0 := blk_frozen BK202.out 0; have hfz119_1 := blk_frozen BK202.out 1; have hfz119_2 := blk_frozen BK202.out 2; have hfz119_3 := blk_frozen BK202.out 3) | (go_at_call 23; (with_reducible refine (laws_eqBody.calls t215 t216 t217 t218 t196 t197 t198 t199 true _ A12.out).mono ?_); rintro e w120 ⟨rfl, hb⟩; have n0_ := z_bk BK182 hb; have n1_ := z_bk BK183 hb; have n2_ := z_bk BK201 hb; have n3_ := z_bk BK202 hb; have n4_ := z_bk BK220 hb; have n5_ := z_bk BK221 hb; have n6_ := z_bs HB hb; clear BK182; clear BK183; clear BK201; clear BK202; clear BK220; clear BK221; clear HB; have BK182 := n0_; have BK183 := n1_; have BK201 := n2_; have BK202 := n3_; have BK220 := n4_; have BK221 := n5_; have HB := n6_; clear n0_ n1_ n2_ n3_ n4_ n5_ n6_; (try clear hb); (try clear hb2); (try clear hk); (try clear hi)))
    go_ret
    exact ⟨by first | rfl | (simp [errW_none, errW_some] <;> rfl) | (simp [*, errW_none, errW_some] <;> rfl), blw⟩
  ·replace c13 := Bool.eq_false_iff.mpr c13
   subst c13
   have H1 : (some false) = some r := by rw [if_neg (show ¬ (false = true) by decide)] at H; exact H
   subst hr_; cases H1
 ·replace c11 := Bool.eq_false_iff.mpr c11
  subst c11
  have H1 : (some false) = some r := by rw [if_neg (show ¬ (false = true) by decide)] at H; exact H
  subst hr_; cases H1

end Go.Proofs.Ytlijlailbjjfbaa.PFnExactPushPair
