/- The machine's side of a law, function by function: a Lean function with the Go function's answers and the proof that the Go code comes to them. No condition. Written by this session's program over the kit's print, this session's own contracts set in. -/
import Derived.Test.YthpnlldadpcmnaaPFnExactDivTurnx0
import Derived.Test.YthpnlldadpcmnaaPFnExactDivTurnx1
import Derived.Test.YthpnlldadpcmnaaPFnExactDivTurnx2
namespace Go.Proofs.Ythpnlldadpcmnaa.PFnExactDivTurn
open Go.RowKit Go.Proofs.YthpnlldadpcmnaaW.PrintWords Go.Proofs.YthpnlldadpcmnaaW.PrintLast Go.Proofs.YthpnlldadpcmnaaW.PrintMore
attribute [local go_sem] max2_int min2_int max_two min_two max_three min_three max_four min_four   -- for this text's walks alone
set_option linter.unusedVariables false
set_option linter.unusedSimpArgs false

/-! ### laws_FnExactDivTurn: function 3 -/
def laws_FnExactDivTurn.f (k : Nat) (a0_0 : Nat) (a0_1 : Nat) (a1_0 : Nat) (a1_1 : Nat) : Option (Bool) := (laws_toTurn.f a0_0 a0_1).bind fun bt181 => ((laws_toTurn.f a1_0 a1_1).bind fun bt183 => ((spec_DivTurn.f k bt181.1 bt181.2 bt183.1 bt183.2).bind fun bt185 => ((laws_toTurn.f a0_0 a0_1).bind fun bt189 => ((laws_toTurn.f a1_0 a1_1).bind fun bt191 => ((impl_DivTurn.f k bt189.1 bt189.2 bt191.1 bt191.2).bind fun bt193 => ((laws_eqTurn.f bt193.1 bt193.2.1 bt185.1 bt185.2.1).bind fun t197 => (if t197 = true then (if (bt193.2.2 != bt185.2.2) = true then (some false) else (some true)) else (some false))))))))
theorem laws_FnExactDivTurn.mono : ∀ a0 a1 a2 a3 k, LeO (laws_FnExactDivTurn.f k a0 a1 a2 a3) (laws_FnExactDivTurn.f (k + 1) a0 a1 a2 a3) := by
 intro a0 a1 a2 a3 k
 unfold laws_FnExactDivTurn.f
 repeat' first
   | (with_reducible exact impl_DivTurn.mono _ _ _ _ _)
   | (with_reducible exact spec_DivTurn.mono _ _ _ _ _)
   | (with_reducible exact LeO.refl _)
   | (with_reducible exact LeO.none _)
   | (with_reducible refine LeO.ite ?_ ?_)
   | (with_reducible refine LeO.bind ?_ (fun _ => ?_))
   | exact impl_DivTurn.mono _ _ _ _ _
   | exact spec_DivTurn.mono _ _ _ _ _
   | exact LeO.none _
   | refine LeO.ite ?_ ?_
   | refine LeO.bind ?_ (fun _ => ?_)
def laws_FnExactDivTurn.T1 : Bool × List (List Nat × List Nat) := (true, [([], []), ([0], [0]), ([], []), ([2, 1], [2]), ([1, 3, 3], [1, 3]), ([4], [4]), ([5], [5]), ([5], [5]), ([], []), ([8, 6, 4, 0, 1, 2, 3, 4, 5, 6, 8], [6, 8]), ([7, 9, 0, 1, 2, 3, 4, 5, 6, 7, 8, 9], [7])])
def laws_FnExactDivTurn.B1 : List Nat := [0, 1, 0, 7, 15, 31, 63, 63, 0, 383, 1023]
theorem laws_FnExactDivTurn.tab1 : rtab .any (opsOf Try.f3 1) = laws_FnExactDivTurn.T1 := by kernel_rfl
theorem laws_FnExactDivTurn.bits1 : waitsOk laws_FnExactDivTurn.T1.2 laws_FnExactDivTurn.B1 = true := by kernel_rfl
def laws_FnExactDivTurn.T2 : Bool × List (List Nat × List Nat) := (true, [([], []), ([0], [0]), ([], []), ([2, 1], [2]), ([1, 3, 3], [1, 3]), ([4], [4]), ([5], [5]), ([5], [5]), ([], []), ([8, 6, 4, 0, 1, 2, 3, 4, 5, 6, 8], [6, 8]), ([7, 9, 0, 1, 2, 3, 4, 5, 6, 7, 8, 9], [7])])
def laws_FnExactDivTurn.B2 : List Nat := [0, 1, 0, 7, 15, 31, 63, 63, 0, 383, 1023]
theorem laws_FnExactDivTurn.tab2 : rtab .any (opsOf Try.f3 2) = laws_FnExactDivTurn.T2 := by kernel_rfl
theorem laws_FnExactDivTurn.bits2 : waitsOk laws_FnExactDivTurn.T2.2 laws_FnExactDivTurn.B2 = true := by kernel_rfl
set_option maxHeartbeats 8000000 in
set_option maxRecDepth 100000 in
theorem laws_FnExactDivTurn.calls (k : Nat) (a0_0 : Nat) (a0_1 : Nat) (a1_0 : Nat) (a1_1 : Nat) (r : Bool) (w : World) (hr_ : r = true) (h : laws_FnExactDivTurn.f k a0_0 a0_1 a1_0 a1_1 = some r) :
  Calls Try.prog 3 #[.agg #[.float .f64 a0_0, .float .f64 a0_1], .agg #[.float .f64 a1_0, .float .f64 a1_1]] w fun e w' => e = .returned (.bool r) ∧ Below w.heap.size w w' := by
 have hu24 := Try.underlying24
 have hu25 := Try.underlying25
 have HB := Aside0.mk (Below.refl w.heap.size w)
 have hsf_ : ∀ (w_ : World) (a_ : Addr) (x_ : Nat), Sem.run Try.prog (store a_ (.float .f64 x_)) w_ = stored Try.prog w_ a_ (.float .f64 x_) .plain := fun w_ a_ x_ => run_store Try.prog w_ a_ _ .plain rfl
 have H : ((laws_toTurn.f a0_0 a0_1).bind fun bt181 => ((laws_toTurn.f a1_0 a1_1).bind fun bt183 => ((spec_DivTurn.f k bt181.1 bt181.2 bt183.1 bt183.2).bind fun bt185 => ((laws_toTurn.f a0_0 a0_1).bind fun bt189 => ((laws_toTurn.f a1_0 a1_1).bind fun bt191 => ((impl_DivTurn.f k bt189.1 bt189.2 bt191.1 bt191.2).bind fun bt193 => ((laws_eqTurn.f bt193.1 bt193.2.1 bt185.1 bt185.2.1).bind fun t197 => (if t197 = true then (if (bt193.2.2 != bt185.2.2) = true then (some false) else (some true)) else (some false))))))))) = some r := h
 clear h
 replace H := Option.bind_eq_some_iff.mp H
 obtain ⟨⟨t181, t182⟩, A30, H⟩ := H
 replace H : ((laws_toTurn.f a1_0 a1_1).bind fun bt183 => ((spec_DivTurn.f k t181 t182 bt183.1 bt183.2).bind fun bt185 => ((laws_toTurn.f a0_0 a0_1).bind fun bt189 => ((laws_toTurn.f a1_0 a1_1).bind fun bt191 => ((impl_DivTurn.f k bt189.1 bt189.2 bt191.1 bt191.2).bind fun bt193 => ((laws_eqTurn.f bt193.1 bt193.2.1 bt185.1 bt185.2.1).bind fun t197 => (if t197 = true then (if (bt193.2.2 != bt185.2.2) = true then (some false) else (some true)) else (some false)))))))) = some r := H
 have A3 := Aside0.mk A30
 clear A30
 replace H := Option.bind_eq_some_iff.mp H
 obtain ⟨⟨t183, t184⟩, A40, H⟩ := H
 replace H : ((spec_DivTurn.f k t181 t182 t183 t184).bind fun bt185 => ((laws_toTurn.f a0_0 a0_1).bind fun bt189 => ((laws_toTurn.f a1_0 a1_1).bind fun bt191 => ((impl_DivTurn.f k bt189.1 bt189.2 bt191.1 bt191.2).bind fun bt193 => ((laws_eqTurn.f bt193.1 bt193.2.1 bt185.1 bt185.2.1).bind fun t197 => (if t197 = true then (if (bt193.2.2 != bt185.2.2) = true then (some false) else (some true)) else (some false))))))) = some r := H
 have A4 := Aside0.mk A40
 clear A40
 replace H := Option.bind_eq_some_iff.mp H
 obtain ⟨⟨t185, t186, t187⟩, A50, H⟩ := H
 replace H : ((laws_toTurn.f a0_0 a0_1).bind fun bt189 => ((laws_toTurn.f a1_0 a1_1).bind fun bt191 => ((impl_DivTurn.f k bt189.1 bt189.2 bt191.1 bt191.2).bind fun bt193 => ((laws_eqTurn.f bt193.1 bt193.2.1 t185 t186).bind fun t197 => (if t197 = true then (if (bt193.2.2 != t187) = true then (some false) else (some true)) else (some false)))))) = some r := H
 have A5 := Aside0.mk A50
 clear A50
 replace H := Option.bind_eq_some_iff.mp H
 obtain ⟨⟨t189, t190⟩, A60, H⟩ := H
 replace H : ((laws_toTurn.f a1_0 a1_1).bind fun bt191 => ((impl_DivTurn.f k t189 t190 bt191.1 bt191.2).bind fun bt193 => ((laws_eqTurn.f bt193.1 bt193.2.1 t185 t186).bind fun t197 => (if t197 = true then (if (bt193.2.2 != t187) = true then (some false) else (some true)) else (some false))))) = some r := H
 have A6 := Aside0.mk A60
 clear A60
 replace H := Option.bind_eq_some_iff.mp H
 obtain ⟨⟨t191, t192⟩, A70, H⟩ := H
 replace H : ((impl_DivTurn.f k t189 t190 t191 t192).bind fun bt193 => ((laws_eqTurn.f bt193.1 bt193.2.1 t185 t186).bind fun t197 => (if t197 = true then (if (bt193.2.2 != t187) = true then (some false) else (some true)) else (some false)))) = some r := H
 have A7 := Aside0.mk A70
 clear A70
 replace H := Option.bind_eq_some_iff.mp H
 obtain ⟨⟨t193, t194, t195⟩, A80, H⟩ := H
 replace H : ((laws_eqTurn.f t193 t194 t185 t186).bind fun t197 => (if t197 = true then (if (t195 != t187) = true then (some false) else (some true)) else (some false))) = some r := H
 have A8 := Aside0.mk A80
 clear A80
 replace H := Option.bind_eq_some_iff.mp H
 obtain ⟨t197, A90, H⟩ := H
 replace H : (if t197 = true then (if (t195 != t187) = true then (some false) else (some true)) else (some false)) = some r := H
 have A9 := Aside0.mk A90
 clear A90
 by_cases c10 : t197 = true
 ·subst c10
  have H1 : (if (t195 != t187) = true then (some false) else (some true)) = some r := by rw [if_pos rfl] at H; exact H
  clear H
  have H := H1
  clear H1
  by_cases c11 : (t195 != t187) = true
  ·rw [if_pos c11] at H
   subst hr_; cases H
  ·rw [if_neg c11] at H
   have c11b0 : (t195 != t187) = false := by simpa using c11
   (try (have c11b1 : decide (t195 = t187) = true := by simpa using c11))
   (try (have c11b2 : (t195 == t187) = true := by simpa using c11))
   clear c11
   obtain rfl := Option.some.inj H
   go_enter Try.func3, Try.ntmps3
   try go_wp2_with (first | ((with_reducible refine gate_dst (N := 2) rfl ?_); refine box_event ?hg (N := 2) ?hd (cs := #[.float .f64 a0_0, .float .f64 a0_1]) (t := 24) ?hr ?_; (case hd => rfl); (case hg => rfl); (case hr => first | (go_simp; done) | (go_simp; rfl)); intro gb179 hg w39 hbox hb; have n0_ := Aside0.mk (below_step blw hb); have n1_ := Aside0.mk (hbox); have n2_ := Aside0.mk ((by rw [hg]; exact (below_size blw) : w.heap.size ≤ gb179)); have n3_ := Aside0.mk ((by rw [hg]; exact (below_size blw) : w.heap.size ≤ gb179)); clear HB; have HB := n0_; have BK179 := n1_; have GW179 := n2_; have GE179 := n3_; clear n0_ n1_ n2_ n3_; clear hb hbox hg) | ((with_reducible refine gate_dst (N := 3) rfl ?_); refine box_event ?hg (N := 3) ?hd (cs := #[.float .f64 a1_0, .float .f64 a1_1]) (t := 24) ?hr ?_; (case hd => rfl); (case hg => rfl); (case hr => first | (go_simp; done) | (go_simp; rfl)); intro gb180 hg w40 hbox hb; have n0_ := Aside0.mk (blk_below (g := gb179) (o := .cells #[.float .f64 a0_0, .float .f64 a0_1] 24 (0, 0)) bkw hb); have n1_ := Aside0.mk (below_step blw hb); have n2_ := Aside0.mk (hbox); have n3_ := Aside0.mk ((by rw [hg]; exact (below_size blw) : w.heap.size ≤ gb180)); have n4_ := Aside0.mk ((by rw [hg]; exact (below_size blw) : w.heap.size ≤ gb180)); have n5_ := Aside0.mk ((by rw [hg]; exact Nat.ne_of_lt (blk_lt (g := gb179) (o := .cells #[.float .f64 a0_0, .float .f64 a0_1] 24 (0, 0)) bkw) : gb179 ≠ gb180)); have n6_ := Aside0.mk ((by rw [hg]; exact Nat.ne_of_gt (blk_lt (g := gb179) (o := .cells #[.float .f64 a0_0, .float .f64 a0_1] 24 (0, 0)) bkw) : gb180 ≠ gb179)); clear BK179; clear HB; have BK179 := n0_; have HB := n1_; have BK180 := n2_; have GW180 := n3_; have GE180 := n4_; have NB179_180 := n5_; have NB180_179 := n6_; clear n0_ n1_ n2_ n3_ n4_ n5_ n6_; clear hb hbox hg))
   have n0_ := Aside0.mk (blk_drew BK179.out)
   have n1_ := Aside0.mk (blk_drew BK180.out)
   have n2_ := Aside0.mk (below_drew1 HB.out)
   clear BK179
   clear BK180
   clear HB
   have BK179 := n0_
   have BK180 := n1_
   have HB := n2_
   clear n0_ n1_ n2_
   refine start_ (n := 11) (S := fun w' => w'.cell? ⟨gb179, 0, none⟩ = some (.float .f64 a0_0) ∧ w'.cell? ⟨gb179, 1, none⟩ = some (.float .f64 a0_1) ∧ w'.cell? ⟨gb180, 0, none⟩ = some (.float .f64 a1_0) ∧ w'.cell? ⟨gb180, 1, none⟩ = some (.float .f64 a1_1)) (ds := []) #[false, false, false, false, false, false, false, false, false, false, false] (by kernel_rfl) rfl rfl ⟨(blk_cell BK179.out 0).trans rfl, (blk_cell BK179.out 1).trans rfl, (blk_cell BK180.out 0).trans rfl, (blk_cell BK180.out 1).trans rfl⟩ (fun hHeld => ?_); refine with_tabW laws_FnExactDivTurn.tab1 laws_FnExactDivTurn.bits1 (fun HT_ HW_ => ?_)
   generalize w40.drew = w41 at BK179 BK180 HB hHeld ⊢
   refine take_ (i := 0) (N := some 10) (v := ?_) (a' := ?_) #[true, false, false, false, false, false, false, false, false, false, false] rfl rfl (take_ofW HT_.out HW_.out (by kernel_rfl)) (fun _ _ _ h => h) (Or.inl ⟨by rfl, ?_⟩) hHeld ?_ ?_
   rotate_left
   ·rintro w' ⟨s0, s1, s2, s3⟩
    go_simp
    with_reducible rfl
   rotate_left
   ·simp only [Act.put, sp1, sp2, sp3, i64_w, i32_w]
    rfl
   refine take_ (i := 2) (N := some 12) (v := ?_) (a' := ?_) #[true, false, true, false, false, false, false, false, false, false, false] rfl rfl (take_ofW HT_.out HW_.out (by kernel_rfl)) (fun _ _ _ h => h) (Or.inl ⟨by rfl, ?_⟩) hHeld ?_ ?_
   rotate_left
   ·rintro w' ⟨s0, s1, s2, s3⟩
    go_simp
    with_reducible rfl
   rotate_left
   ·simp only [Act.put, sp1, sp2, sp3, i64_w, i32_w]
    rfl
   refine join_ (σ := Nat) 2 #[true, true, true, true, true, true, true, true, true, false, false] (fun s_ => [(11, .agg #[.float .f64 t181, .float .f64 t182]), (13, .agg #[.float .f64 t183, .float .f64 t184]), (14, .tuple #[.agg #[.float .f64 t185, .float .f64 t186], .bool t187]), (5, .pointer (some ⟨s_, 0, none⟩)), (9, .tuple #[.agg #[.float .f64 t185, .float .f64 t186], .bool t187]), (15, .agg #[.float .f64 t185, .float .f64 t186]), (16, .bool t187)]) (fun s_ w' => (w'.cell? ⟨gb179, 0, none⟩ = some (.float .f64 a0_0) ∧ w'.cell? ⟨gb179, 1, none⟩ = some (.float .f64 a0_1) ∧ w'.cell? ⟨gb180, 0, none⟩ = some (.float .f64 a1_0) ∧ w'.cell? ⟨gb180, 1, none⟩ = some (.float .f64 a1_1)) ∧ (w'.heap[gb179]? = some (.cells #[.float .f64 a0_0, .float .f64 a0_1] 24 (0, 0))) ∧ (w'.heap[gb180]? = some (.cells #[.float .f64 a1_0, .float .f64 a1_1] 24 (0, 0))) ∧ (w'.heap[s_]? = some (.cells #[.float .f64 0, .float .f64 0] 25 (0, 0))) ∧ (w.heap.size ≤ s_) ∧ (w.heap.size ≤ s_) ∧ (gb179 ≠ s_) ∧ (s_ ≠ gb179) ∧ (gb180 ≠ s_) ∧ (s_ ≠ gb180) ∧ (Below w.heap.size w w')) ?_ ?_
   rotate_left
   ·intro hCont
    refine two_ (i := 1) (j := 8) (Ni := some 11) (Nj := some 5) #[true, true, true, false, false, false, false, false, false, false, false] #[true, false, true, false, false, false, false, false, true, false, false] rfl rfl rfl rfl (two_of HT_.out (by kernel_rfl)) (by decide) (by decide) (fun K hK => ?_) (fun K hK => ?_)
    ·skip
     refine goes_ Try.func6 (by kernel_rfl) rfl #[.agg #[.float .f64 a0_0, .float .f64 a0_1]] (by rfl) rfl rfl (by (try simp only [List.map_toArray, List.map_cons, List.map_nil]); first | done | rfl | (simp only [List.length_drop, List.length_take]; rfl)) ?_
     with_reducible refine (laws_toTurn.calls a0_0 a0_1 t181 t182 _ A3.out).mono ?_
     rintro e w42 ⟨rfl, hb⟩
     refine ⟨_, rfl, ?_⟩
     have n0_ := Aside0.mk (blk_below (g := gb179) (o := .cells #[.float .f64 a0_0, .float .f64 a0_1] 24 (0, 0)) bkw hb)
     have n1_ := Aside0.mk (blk_below (g := gb180) (o := .cells #[.float .f64 a1_0, .float .f64 a1_1] 24 (0, 0)) bkw hb)
     have n2_ := Aside0.mk (below_step blw hb)
     clear BK179
     clear BK180
     clear HB
     have BK179 := n0_
     have BK180 := n1_
     have HB := n2_
     clear n0_ n1_ n2_
     (try clear hb)
     (try clear hb2)
     (try clear hk)
     (try clear hi)
     refine hK.out _ _ ⟨(blk_cell BK179.out 0).trans rfl, (blk_cell BK179.out 1).trans rfl, (blk_cell BK180.out 0).trans rfl, (blk_cell BK180.out 1).trans rfl⟩ (fun hHeld => ?_)
     clear hK K
     refine norm_ (a' := ?_) ?_ ?_
     rotate_left
     ·show Act.put _ (some 11) _ = _
      simp only [Act.put, sp1, sp2, sp3, i64_w, i32_w]
      rfl
     refine two_ (i := 3) (j := 8) (Ni := some 13) (Nj := some 5) #[true, true, true, true, false, false, false, false, false, false, false] #[true, true, true, false, false, false, false, false, true, false, false] rfl rfl rfl rfl (two_of HT_.out (by kernel_rfl)) (by decide) (by decide) (fun K hK => ?_) (fun K hK => ?_)
     ·skip
      refine goes_ Try.func6 (by kernel_rfl) rfl #[.agg #[.float .f64 a1_0, .float .f64 a1_1]] (by rfl) rfl rfl (by (try simp only [List.map_toArray, List.map_cons, List.map_nil]); first | done | rfl | (simp only [List.length_drop, List.length_take]; rfl)) ?_
      with_reducible refine (laws_toTurn.calls a1_0 a1_1 t183 t184 _ A4.out).mono ?_
      rintro e w43 ⟨rfl, hb⟩
      refine ⟨_, rfl, ?_⟩
      have n0_ := Aside0.mk (blk_below (g := gb179) (o := .cells #[.float .f64 a0_0, .float .f64 a0_1] 24 (0, 0)) bkw hb)
      have n1_ := Aside0.mk (blk_below (g := gb180) (o := .cells #[.float .f64 a1_0, .float .f64 a1_1] 24 (0, 0)) bkw hb)
      have n2_ := Aside0.mk (below_step blw hb)
      clear BK179
      clear BK180
      clear HB
      have BK179 := n0_
      have BK180 := n1_
      have HB := n2_
      clear n0_ n1_ n2_
      (try clear hb)
      (try clear hb2)
      (try clear hk)
      (try clear hi)
      refine hK.out _ _ ⟨(blk_cell BK179.out 0).trans rfl, (blk_cell BK179.out 1).trans rfl, (blk_cell BK180.out 0).trans rfl, (blk_cell BK180.out 1).trans rfl⟩ (fun hHeld => ?_)
      clear hK K
      refine norm_ (a' := ?_) ?_ ?_
      rotate_left
      ·show Act.put _ (some 13) _ = _
       simp only [Act.put, sp1, sp2, sp3, i64_w, i32_w]
       rfl
      refine two_ (i := 4) (j := 8) (Ni := some 14) (Nj := some 5) #[true, true, true, true, true, false, false, false, false, false, false] #[true, true, true, true, false, false, false, false, true, false, false] rfl rfl rfl rfl (two_of HT_.out (by kernel_rfl)) (by decide) (by decide) (fun K hK => ?_) (fun K hK => ?_)
      ·skip
       refine goes_ Try.func5 (by kernel_rfl) rfl #[.agg #[.float .f64 t181, .float .f64 t182], .agg #[.float .f64 t183, .float .f64 t184]] (by rfl) rfl rfl (by (try simp only [List.map_toArray, List.map_cons, List.map_nil]); first | done | rfl | (simp only [List.length_drop, List.length_take]; rfl)) ?_
       with_reducible refine (spec_DivTurn.calls k t181 t182 t183 t184 t185 t186 t187 _ A5.out).mono ?_
       rintro e w44 ⟨rfl, hb⟩
       refine ⟨_, rfl, ?_⟩
       have n0_ := Aside0.mk (blk_below (g := gb179) (o := .cells #[.float .f64 a0_0, .float .f64 a0_1] 24 (0, 0)) bkw hb)
       have n1_ := Aside0.mk (blk_below (g := gb180) (o := .cells #[.float .f64 a1_0, .float .f64 a1_1] 24 (0, 0)) bkw hb)
       have n2_ := Aside0.mk (below_step blw hb)
       clear BK179
       clear BK180
       clear HB
       have BK179 := n0_
       have BK180 := n1_
       have HB := n2_
       clear n0_ n1_ n2_
       (try clear hb)
       (try clear hb2)
       (try clear hk)
       (try clear hi)
       refine hK.out _ _ ⟨(blk_cell BK179.out 0).trans rfl, (blk_cell BK179.out 1).trans rfl, (blk_cell BK180.out 0).trans rfl, (blk_cell BK180.out 1).trans rfl⟩ (fun hHeld => ?_)
       clear hK K
       refine norm_ (a' := ?_) ?_ ?_
       rotate_left
       ·show Act.put _ (some 14) _ = _
        simp only [Act.put, sp1, sp2, sp3, i64_w, i32_w]
        rfl
       refine pure_ (i := 5) (N := some 9) (v := ?_) (a' := ?_) #[true, true, true, true, true, true, false, false, false, false, false] rfl rfl (any_of HT_.out (by kernel_rfl)) (fun _ _ _ h => h) (Or.inl ⟨by rfl, ?_⟩) ?_ ?_
       rotate_left
       ·intro w'
        go_simp
        with_reducible rfl
       rotate_left
       ·simp only [Act.put, sp1, sp2, sp3, i64_w, i32_w]
        rfl
       refine pure_ (i := 6) (N := some 15) (v := ?_) (a' := ?_) #[true, true, true, true, true, true, true, false, false, false, false] rfl rfl (any_of HT_.out (by kernel_rfl)) (fun _ _ _ h => h) (Or.inl ⟨by rfl, ?_⟩) ?_ ?_
       rotate_left
       ·intro w'
        go_simp
        with_reducible rfl
       rotate_left
       ·simp only [Act.put, sp1, sp2, sp3, i64_w, i32_w]
        rfl
       refine pure_ (i := 7) (N := some 16) (v := ?_) (a' := ?_) #[true, true, true, true, true, true, true, true, false, false, false] rfl rfl (any_of HT_.out (by kernel_rfl)) (fun _ _ _ h => h) (Or.inl ⟨by rfl, ?_⟩) ?_ ?_
       rotate_left
       ·intro w'
        go_simp
        with_reducible rfl
       rotate_left
       ·simp only [Act.put, sp1, sp2, sp3, i64_w, i32_w]
        rfl
       refine one_ (i := 8) (N := some 5) #[true, true, true, true, true, true, true, true, true, false, false] rfl rfl (one_of HT_.out (by kernel_rfl)) (by decide) (fun K hK => ?_)
       refine box_step ?hg (N := 5) ?hd (cs := #[.float .f64 0, .float .f64 0]) (t := 25) ?hr ?_; (case hd => rfl); (case hg => rfl); (case hr => first | (go_simp; done) | (go_simp; rfl))
       intro gb188 hg w45 hbox hb
       have n0_ := Aside0.mk (blk_below (g := gb179) (o := .cells #[.float .f64 a0_0, .float .f64 a0_1] 24 (0, 0)) bkw hb)
       have n1_ := Aside0.mk (blk_below (g := gb180) (o := .cells #[.float .f64 a1_0, .float .f64 a1_1] 24 (0, 0)) bkw hb)
       have n2_ := Aside0.mk (below_step blw hb)
       have n3_ := Aside0.mk (hbox)
       have n4_ := Aside0.mk ((by rw [hg]; exact (below_size blw) : w.heap.size ≤ gb188))
       have n5_ := Aside0.mk ((by rw [hg]; exact (below_size blw) : w.heap.size ≤ gb188))
       have n6_ := Aside0.mk ((by rw [hg]; exact Nat.ne_of_lt (blk_lt (g := gb179) (o := .cells #[.float .f64 a0_0, .float .f64 a0_1] 24 (0, 0)) bkw) : gb179 ≠ gb188))
       have n7_ := Aside0.mk ((by rw [hg]; exact Nat.ne_of_gt (blk_lt (g := gb179) (o := .cells #[.float .f64 a0_0, .float .f64 a0_1] 24 (0, 0)) bkw) : gb188 ≠ gb179))
       have n8_ := Aside0.mk ((by rw [hg]; exact Nat.ne_of_lt (blk_lt (g := gb180) (o := .cells #[.float .f64 a1_0, .float .f64 a1_1] 24 (0, 0)) bkw) : gb180 ≠ gb188))
       have n9_ := Aside0.mk ((by rw [hg]; exact Nat.ne_of_gt (blk_lt (g := gb180) (o := .cells #[.float .f64 a1_0, .float .f64 a1_1] 24 (0, 0)) bkw) : gb188 ≠ gb180))
       clear BK179
       clear BK180
       clear HB
       have BK179 := n0_
       have BK180 := n1_
       have HB := n2_
       have BK188 := n3_
       have GW188 := n4_
       have GE188 := n5_
       have NB179_188 := n6_
       have NB188_179 := n7_
       have NB180_188 := n8_
       have NB188_180 := n9_
       clear n0_ n1_ n2_ n3_ n4_ n5_ n6_ n7_ n8_ n9_
       clear hb hbox hg
       refine hK.out _ _ ⟨(blk_cell BK179.out 0).trans rfl, (blk_cell BK179.out 1).trans rfl, (blk_cell BK180.out 0).trans rfl, (blk_cell BK180.out 1).trans rfl⟩ (fun hHeld => ?_)
       clear hK K
       refine norm_ (a' := ?_) ?_ ?_
       rotate_left
       ·show Act.put _ (some 5) _ = _
        simp only [Act.put, sp1, sp2, sp3, i64_w, i32_w]
        rfl
       exact norm_ (by simp only [putAll, Act.put, List.setIfInBounds_toArray, List.set_cons_zero, List.set_cons_succ]) (hCont (gb188) _ ⟨hHeld, bkw, bkw, bkw, GW188.out, GE188.out, NB179_188.out, NB188_179.out, NB180_188.out, NB188_180.out, blw⟩)
      ·skip
       refine box_step ?hg (N := 5) ?hd (cs := #[.float .f64 0, .float .f64 0]) (t := 25) ?hr ?_; (case hd => rfl); (case hg => rfl); (case hr => first | (go_simp; done) | (go_simp; rfl))
       intro gb188 hg w44 hbox hb
       have n0_ := Aside0.mk (blk_below (g := gb179) (o := .cells #[.float .f64 a0_0, .float .f64 a0_1] 24 (0, 0)) bkw hb)
       have n1_ := Aside0.mk (blk_below (g := gb180) (o := .cells #[.float .f64 a1_0, .float .f64 a1_1] 24 (0, 0)) bkw hb)
       have n2_ := Aside0.mk (below_step blw hb)
       have n3_ := Aside0.mk (hbox)
       have n4_ := Aside0.mk ((by rw [hg]; exact (below_size blw) : w.heap.size ≤ gb188))
       have n5_ := Aside0.mk ((by rw [hg]; exact (below_size blw) : w.heap.size ≤ gb188))
       have n6_ := Aside0.mk ((by rw [hg]; exact Nat.ne_of_lt (blk_lt (g := gb179) (o := .cells #[.float .f64 a0_0, .float .f64 a0_1] 24 (0, 0)) bkw) : gb179 ≠ gb188))
       have n7_ := Aside0.mk ((by rw [hg]; exact Nat.ne_of_gt (blk_lt (g := gb179) (o := .cells #[.float .f64 a0_0, .float .f64 a0_1] 24 (0, 0)) bkw) : gb188 ≠ gb179))
       have n8_ := Aside0.mk ((by rw [hg]; exact Nat.ne_of_lt (blk_lt (g := gb180) (o := .cells #[.float .f64 a1_0, .float .f64 a1_1] 24 (0, 0)) bkw) : gb180 ≠ gb188))
       have n9_ := Aside0.mk ((by rw [hg]; exact Nat.ne_of_gt (blk_lt (g := gb180) (o := .cells #[.float .f64 a1_0, .float .f64 a1_1] 24 (0, 0)) bkw) : gb188 ≠ gb180))
       clear BK179
       clear BK180
       clear HB
       have BK179 := n0_
       have BK180 := n1_
       have HB := n2_
       have BK188 := n3_
       have GW188 := n4_
       have GE188 := n5_
       have NB179_188 := n6_
       have NB188_179 := n7_
       have NB180_188 := n8_
       have NB188_180 := n9_
       clear n0_ n1_ n2_ n3_ n4_ n5_ n6_ n7_ n8_ n9_
       clear hb hbox hg
       refine hK.out _ _ ⟨(blk_cell BK179.out 0).trans rfl, (blk_cell BK179.out 1).trans rfl, (blk_cell BK180.out 0).trans rfl, (blk_cell BK180.out 1).trans rfl⟩ (fun hHeld => ?_)
       clear hK K
       refine norm_ (a' := ?_) ?_ ?_
       rotate_left
       ·show Act.put _ (some 5) _ = _
        simp only [Act.put, sp1, sp2, sp3, i64_w, i32_w]
        rfl
       refine one_ (i := 4) (N := some 14) #[true, true, true, true, true, false, false, false, true, false, false] rfl rfl (one_of HT_.out (by kernel_rfl)) (by decide) (fun K hK => ?_)
       refine goes_ Try.func5 (by kernel_rfl) rfl #[.agg #[.float .f64 t181, .float .f64 t182], .agg #[.float .f64 t183, .float .f64 t184]] (by rfl) rfl rfl (by (try simp only [List.map_toArray, List.map_cons, List.map_nil]); first | done | rfl | (simp only [List.length_drop, List.length_take]; rfl)) ?_
       with_reducible refine (spec_DivTurn.calls k t181 t182 t183 t184 t185 t186 t187 _ A5.out).mono ?_
       rintro e w45 ⟨rfl, hb⟩
       refine ⟨_, rfl, ?_⟩
       have n0_ := Aside0.mk (blk_below (g := gb179) (o := .cells #[.float .f64 a0_0, .float .f64 a0_1] 24 (0, 0)) bkw hb)
       have n1_ := Aside0.mk (blk_below (g := gb180) (o := .cells #[.float .f64 a1_0, .float .f64 a1_1] 24 (0, 0)) bkw hb)
       have n2_ := Aside0.mk (blk_below (g := gb188) (o := .cells #[.float .f64 0, .float .f64 0] 25 (0, 0)) bkw hb)
       have n3_ := Aside0.mk (below_step blw hb)
       clear BK179
       clear BK180
       clear BK188
       clear HB
       have BK179 := n0_
       have BK180 := n1_
       have BK188 := n2_
       have HB := n3_
       clear n0_ n1_ n2_ n3_
       (try clear hb)
       (try clear hb2)
       (try clear hk)
       (try clear hi)
       refine hK.out _ _ ⟨(blk_cell BK179.out 0).trans rfl, (blk_cell BK179.out 1).trans rfl, (blk_cell BK180.out 0).trans rfl, (blk_cell BK180.out 1).trans rfl⟩ (fun hHeld => ?_)
       clear hK K
       refine norm_ (a' := ?_) ?_ ?_
       rotate_left
       ·show Act.put _ (some 14) _ = _
        simp only [Act.put, sp1, sp2, sp3, i64_w, i32_w]
        rfl
       refine pure_ (i := 5) (N := some 9) (v := ?_) (a' := ?_) #[true, true, true, true, true, true, false, false, true, false, false] rfl rfl (any_of HT_.out (by kernel_rfl)) (fun _ _ _ h => h) (Or.inl ⟨by rfl, ?_⟩) ?_ ?_
       rotate_left
       ·intro w'
        go_simp
        with_reducible rfl
       rotate_left
       ·simp only [Act.put, sp1, sp2, sp3, i64_w, i32_w]
        rfl
       refine pure_ (i := 6) (N := some 15) (v := ?_) (a' := ?_) #[true, true, true, true, true, true, true, false, true, false, false] rfl rfl (any_of HT_.out (by kernel_rfl)) (fun _ _ _ h => h) (Or.inl ⟨by rfl, ?_⟩) ?_ ?_
       rotate_left
       ·intro w'
        go_simp
        with_reducible rfl
       rotate_left
       ·simp only [Act.put, sp1, sp2, sp3, i64_w, i32_w]
        rfl
       refine pure_ (i := 7) (N := some 16) (v := ?_) (a' := ?_) #[true, true, true, true, true, true, true, true, true, false, false] rfl rfl (any_of HT_.out (by kernel_rfl)) (fun _ _ _ h => h) (Or.inl ⟨by rfl, ?_⟩) ?_ ?_
       rotate_left
       ·intro w'
        go_simp
        with_reducible rfl
       rotate_left
       ·simp only [Act.put, sp1, sp2, sp3, i64_w, i32_w]
        rfl
       exact norm_ (by simp only [putAll, Act.put, List.setIfInBounds_toArray, List.set_cons_zero, List.set_cons_succ]) (hCont (gb188) _ ⟨hHeld, bkw, bkw, bkw, GW188.out, GE188.out, NB179_188.out, NB188_179.out, NB180_188.out, NB188_180.out, blw⟩)
     ·skip
      refine box_step ?hg (N := 5) ?hd (cs := #[.float .f64 0, .float .f64 0]) (t := 25) ?hr ?_; (case hd => rfl); (case hg => rfl); (case hr => first | (go_simp; done) | (go_simp; rfl))
      intro gb188 hg w43 hbox hb
      have n0_ := Aside0.mk (blk_below (g := gb179) (o := .cells #[.float .f64 a0_0, .float .f64 a0_1] 24 (0, 0)) bkw hb)
      have n1_ := Aside0.mk (blk_below (g := gb180) (o := .cells #[.float .f64 a1_0, .float .f64 a1_1] 24 (0, 0)) bkw hb)
      have n2_ := Aside0.mk (below_step blw hb)
      have n3_ := Aside0.mk (hbox)
      have n4_ := Aside0.mk ((by rw [hg]; exact (below_size blw) : w.heap.size ≤ gb188))
      have n5_ := Aside0.mk ((by rw [hg]; exact (below_size blw) : w.heap.size ≤ gb188))
      have n6_ := Aside0.mk ((by rw [hg]; exact Nat.ne_of_lt (blk_lt (g := gb179) (o := .cells #[.float .f64 a0_0, .float .f64 a0_1] 24 (0, 0)) bkw) : gb179 ≠ gb188))
      have n7_ := Aside0.mk ((by rw [hg]; exact Nat.ne_of_gt (blk_lt (g := gb179) (o := .cells #[.float .f64 a0_0, .float .f64 a0_1] 24 (0, 0)) bkw) : gb188 ≠ gb179))
      have n8_ := Aside0.mk ((by rw [hg]; exact Nat.ne_of_lt (blk_lt (g := gb180) (o := .cells #[.float .f64 a1_0, .float .f64 a1_1] 24 (0, 0)) bkw) : gb180 ≠ gb188))
      have n9_ := Aside0.mk ((by rw [hg]; exact Nat.ne_of_gt (blk_lt (g := gb180) (o := .cells #[.float .f64 a1_0, .float .f64 a1_1] 24 (0, 0)) bkw) : gb188 ≠ gb180))
      clear BK179
      clear BK180
      clear HB
      have BK179 := n0_
      have BK180 := n1_
      have HB := n2_
      have BK188 := n3_
      have GW188 := n4_
      have GE188 := n5_
      have NB179_188 := n6_
      have NB188_179 := n7_
      have NB180_188 := n8_
      have NB188_180 := n9_
      clear n0_ n1_ n2_ n3_ n4_ n5_ n6_ n7_ n8_ n9_
      clear hb hbox hg
      refine hK.out _ _ ⟨(blk_cell BK179.out 0).trans rfl, (blk_cell BK179.out 1).trans rfl, (blk_cell BK180.out 0).trans rfl, (blk_cell BK180.out 1).trans rfl⟩ (fun hHeld => ?_)
      clear hK K
      refine norm_ (a' := ?_) ?_ ?_
      rotate_left
      ·show Act.put _ (some 5) _ = _
       simp only [Act.put, sp1, sp2, sp3, i64_w, i32_w]
       rfl
      refine one_ (i := 3) (N := some 13) #[true, true, true, true, false, false, false, false, true, false, false] rfl rfl (one_of HT_.out (by kernel_rfl)) (by decide) (fun K hK => ?_)
      refine goes_ Try.func6 (by kernel_rfl) rfl #[.agg #[.float .f64 a1_0, .float .f64 a1_1]] (by rfl) rfl rfl (by (try simp only [List.map_toArray, List.map_cons, List.map_nil]); first | done | rfl | (simp only [List.length_drop, List.length_take]; rfl)) ?_
      with_reducible refine (laws_toTurn.calls a1_0 a1_1 t183 t184 _ A4.out).mono ?_
      rintro e w44 ⟨rfl, hb⟩
      refine ⟨_, rfl, ?_⟩
      have n0_ := Aside0.mk (blk_below (g := gb179) (o := .cells #[.float .f64 a0_0, .float .f64 a0_1] 24 (0, 0)) bkw hb)
      have n1_ := Aside0.mk (blk_below (g := gb180) (o := .cells #[.float .f64 a1_0, .float .f64 a1_1] 24 (0, 0)) bkw hb)
      have n2_ := Aside0.mk (blk_below (g := gb188) (o := .cells #[.float .f64 0, .float .f64 0] 25 (0, 0)) bkw hb)
      have n3_ := Aside0.mk (below_step blw hb)
      clear BK179
      clear BK180
      clear BK188
      clear HB
      have BK179 := n0_
      have BK180 := n1_
      have BK188 := n2_
      have HB := n3_
      clear n0_ n1_ n2_ n3_
      (try clear hb)
      (try clear hb2)
      (try clear hk)
      (try clear hi)
      refine hK.out _ _ ⟨(blk_cell BK179.out 0).trans rfl, (blk_cell BK179.out 1).trans rfl, (blk_cell BK180.out 0).trans rfl, (blk_cell BK180.out 1).trans rfl⟩ (fun hHeld => ?_)
      clear hK K
      refine norm_ (a' := ?_) ?_ ?_
      rotate_left
      ·show Act.put _ (some 13) _ = _
       simp only [Act.put, sp1, sp2, sp3, i64_w, i32_w]
       rfl
      refine one_ (i := 4) (N := some 14) #[true, true, true, true, true, false, false, false, true, false, false] rfl rfl (one_of HT_.out (by kernel_rfl)) (by decide) (fun K hK => ?_)
      refine goes_ Try.func5 (by kernel_rfl) rfl #[.agg #[.float .f64 t181, .float .f64 t182], .agg #[.float .f64 t183, .float .f64 t184]] (by rfl) rfl rfl (by (try simp only [List.map_toArray, List.map_cons, List.map_nil]); first | done | rfl | (simp only [List.length_drop, List.length_take]; rfl)) ?_
      with_reducible refine (spec_DivTurn.calls k t181 t182 t183 t184 t185 t186 t187 _ A5.out).mono ?_
      rintro e w45 ⟨rfl, hb⟩
      refine ⟨_, rfl, ?_⟩
      have n0_ := Aside0.mk (blk_below (g := gb179) (o := .cells #[.float .f64 a0_0, .float .f64 a0_1] 24 (0, 0)) bkw hb)
      have n1_ := Aside0.mk (blk_below (g := gb180) (o := .cells #[.float .f64 a1_0, .float .f64 a1_1] 24 (0, 0)) bkw hb)
      have n2_ := Aside0.mk (blk_below (g := gb188) (o := .cells #[.float .f64 0, .float .f64 0] 25 (0, 0)) bkw hb)
      have n3_ := Aside0.mk (below_step blw hb)
      clear BK179
      clear BK180
      clear BK188
      clear HB
      have BK179 := n0_
      have BK180 := n1_
      have BK188 := n2_
      have HB := n3_
      clear n0_ n1_ n2_ n3_
      (try clear hb)
      (try clear hb2)
      (try clear hk)
      (try clear hi)
      refine hK.out _ _ ⟨(blk_cell BK179.out 0).trans rfl, (blk_cell BK179.out 1).trans rfl, (blk_cell BK180.out 0).trans rfl, (blk_cell BK180.out 1).trans rfl⟩ (fun hHeld => ?_)
      clear hK K
      refine norm_ (a' := ?_) ?_ ?_
      rotate_left
      ·show Act.put _ (some 14) _ = _
       simp only [Act.put, sp1, sp2, sp3, i64_w, i32_w]
       rfl
      refine pure_ (i := 5) (N := some 9) (v := ?_) (a' := ?_) #[true, true, true, true, true, true, false, false, true, false, false] rfl rfl (any_of HT_.out (by kernel_rfl)) (fun _ _ _ h => h) (Or.inl ⟨by rfl, ?_⟩) ?_ ?_
      rotate_left
      ·intro w'
       go_simp
       with_reducible rfl
      rotate_left
      ·simp only [Act.put, sp1, sp2, sp3, i64_w, i32_w]
       rfl
      refine pure_ (i := 6) (N := some 15) (v := ?_) (a' := ?_) #[true, true, true, true, true, true, true, false, true, false, false] rfl rfl (any_of HT_.out (by kernel_rfl)) (fun _ _ _ h => h) (Or.inl ⟨by rfl, ?_⟩) ?_ ?_
      rotate_left
      ·intro w'
       go_simp
       with_reducible rfl
      rotate_left
      ·simp only [Act.put, sp1, sp2, sp3, i64_w, i32_w]
       rfl
      refine pure_ (i := 7) (N := some 16) (v := ?_) (a' := ?_) #[true, true, true, true, true, true, true, true, true, false, false] rfl rfl (any_of HT_.out (by kernel_rfl)) (fun _ _ _ h => h) (Or.inl ⟨by rfl, ?_⟩) ?_ ?_
      rotate_left
      ·intro w'
       go_simp
       with_reducible rfl
      rotate_left
      ·simp only [Act.put, sp1, sp2, sp3, i64_w, i32_w]
       rfl
      exact norm_ (by simp only [putAll, Act.put, List.setIfInBounds_toArray, List.set_cons_zero, List.set_cons_succ]) (hCont (gb188) _ ⟨hHeld, bkw, bkw, bkw, GW188.out, GE188.out, NB179_188.out, NB188_179.out, NB180_188.out, NB188_180.out, blw⟩)
    ·skip
     refine box_step ?hg (N := 5) ?hd (cs := #[.float .f64 0, .float .f64 0]) (t := 25) ?hr ?_; (case hd => rfl); (case hg => rfl); (case hr => first | (go_simp; done) | (go_simp; rfl))
     intro gb188 hg w42 hbox hb
     have n0_ := Aside0.mk (blk_below (g := gb179) (o := .cells #[.float .f64 a0_0, .float .f64 a0_1] 24 (0, 0)) bkw hb)
     have n1_ := Aside0.mk (blk_below (g := gb180) (o := .cells #[.float .f64 a1_0, .float .f64 a1_1] 24 (0, 0)) bkw hb)
     have n2_ := Aside0.mk (below_step blw hb)
     have n3_ := Aside0.mk (hbox)
     have n4_ := Aside0.mk ((by rw [hg]; exact (below_size blw) : w.heap.size ≤ gb188))
     have n5_ := Aside0.mk ((by rw [hg]; exact (below_size blw) : w.heap.size ≤ gb188))
     have n6_ := Aside0.mk ((by rw [hg]; exact Nat.ne_of_lt (blk_lt (g := gb179) (o := .cells #[.float .f64 a0_0, .float .f64 a0_1] 24 (0, 0)) bkw) : gb179 ≠ gb188))
     have n7_ := Aside0.mk ((by rw [hg]; exact Nat.ne_of_gt (blk_lt (g := gb179) (o := .cells #[.float .f64 a0_0, .float .f64 a0_1] 24 (0, 0)) bkw) : gb188 ≠ gb179))
     have n8_ := Aside0.mk ((by rw [hg]; exact Nat.ne_of_lt (blk_lt (g := gb180) (o := .cells #[.float .f64 a1_0, .float .f64 a1_1] 24 (0, 0)) bkw) : gb180 ≠ gb188))
     have n9_ := Aside0.mk ((by rw [hg]; exact Nat.ne_of_gt (blk_lt (g := gb180) (o := .cells #[.float .f64 a1_0, .float .f64 a1_1] 24 (0, 0)) bkw) : gb188 ≠ gb180))
     clear BK179
     clear BK180
     clear HB
     have BK179 := n0_
     have BK180 := n1_
     have HB := n2_
     have BK188 := n3_
     have GW188 := n4_
     have GE188 := n5_
     have NB179_188 := n6_
     have NB188_179 := n7_
     have NB180_188 := n8_
     have NB188_180 := n9_
     clear n0_ n1_ n2_ n3_ n4_ n5_ n6_ n7_ n8_ n9_
     clear hb hbox hg
     refine hK.out _ _ ⟨(blk_cell BK179.out 0).trans rfl, (blk_cell BK179.out 1).trans rfl, (blk_cell BK180.out 0).trans rfl, (blk_cell BK180.out 1).trans rfl⟩ (fun hHeld => ?_)
     clear hK K
     refine norm_ (a' := ?_) ?_ ?_
     rotate_left
     ·show Act.put _ (some 5) _ = _
      simp only [Act.put, sp1, sp2, sp3, i64_w, i32_w]
      rfl
     refine one_ (i := 1) (N := some 11) #[true, true, true, false, false, false, false, false, true, false, false] rfl rfl (one_of HT_.out (by kernel_rfl)) (by decide) (fun K hK => ?_)
     refine goes_ Try.func6 (by kernel_rfl) rfl #[.agg #[.float .f64 a0_0, .float .f64 a0_1]] (by rfl) rfl rfl (by (try simp only [List.map_toArray, List.map_cons, List.map_nil]); first | done | rfl | (simp only [List.length_drop, List.length_take]; rfl)) ?_
     with_reducible refine (laws_toTurn.calls a0_0 a0_1 t181 t182 _ A3.out).mono ?_
     rintro e w43 ⟨rfl, hb⟩
     refine ⟨_, rfl, ?_⟩
     have n0_ := Aside0.mk (blk_below (g := gb179) (o := .cells #[.float .f64 a0_0, .float .f64 a0_1] 24 (0, 0)) bkw hb)
     have n1_ := Aside0.mk (blk_below (g := gb180) (o := .cells #[.float .f64 a1_0, .float .f64 a1_1] 24 (0, 0)) bkw hb)
     have n2_ := Aside0.mk (blk_below (g := gb188) (o := .cells #[.float .f64 0, .float .f64 0] 25 (0, 0)) bkw hb)
     have n3_ := Aside0.mk (below_step blw hb)
     clear BK179
     clear BK180
     clear BK188
     clear HB
     have BK179 := n0_
     have BK180 := n1_
     have BK188 := n2_
     have HB := n3_
     clear n0_ n1_ n2_ n3_
     (try clear hb)
     (try clear hb2)
     (try clear hk)
     (try clear hi)
     refine hK.out _ _ ⟨(blk_cell BK179.out 0).trans rfl, (blk_cell BK179.out 1).trans rfl, (blk_cell BK180.out 0).trans rfl, (blk_cell BK180.out 1).trans rfl⟩ (fun hHeld => ?_)
     clear hK K
     refine norm_ (a' := ?_) ?_ ?_
     rotate_left
     ·show Act.put _ (some 11) _ = _
      simp only [Act.put, sp1, sp2, sp3, i64_w, i32_w]
      rfl
     refine one_ (i := 3) (N := some 13) #[true, true, true, true, false, false, false, false, true, false, false] rfl rfl (one_of HT_.out (by kernel_rfl)) (by decide) (fun K hK => ?_)
     refine goes_ Try.func6 (by kernel_rfl) rfl #[.agg #[.float .f64 a1_0, .float .f64 a1_1]] (by rfl) rfl rfl (by (try simp only [List.map_toArray, List.map_cons, List.map_nil]); first | done | rfl | (simp only [List.length_drop, List.length_take]; rfl)) ?_
     with_reducible refine (laws_toTurn.calls a1_0 a1_1 t183 t184 _ A4.out).mono ?_
     rintro e w44 ⟨rfl, hb⟩
     refine ⟨_, rfl, ?_⟩
     have n0_ := Aside0.mk (blk_below (g := gb179) (o := .cells #[.float .f64 a0_0, .float .f64 a0_1] 24 (0, 0)) bkw hb)
     have n1_ := Aside0.mk (blk_below (g := gb180) (o := .cells #[.float .f64 a1_0, .float .f64 a1_1] 24 (0, 0)) bkw hb)
     have n2_ := Aside0.mk (blk_below (g := gb188) (o := .cells #[.float .f64 0, .float .f64 0] 25 (0, 0)) bkw hb)
     have n3_ := Aside0.mk (below_step blw hb)
     clear BK179
     clear BK180
     clear BK188
     clear HB
     have BK179 := n0_
     have BK180 := n1_
     have BK188 := n2_
     have HB := n3_
     clear n0_ n1_ n2_ n3_
     (try clear hb)
     (try clear hb2)
     (try clear hk)
     (try clear hi)
     refine hK.out _ _ ⟨(blk_cell BK179.out 0).trans rfl, (blk_cell BK179.out 1).trans rfl, (blk_cell BK180.out 0).trans rfl, (blk_cell BK180.out 1).trans rfl⟩ (fun hHeld => ?_)
     clear hK K
     refine norm_ (a' := ?_) ?_ ?_
     rotate_left
     ·show Act.put _ (some 13) _ = _
      simp only [Act.put, sp1, sp2, sp3, i64_w, i32_w]
      rfl
     refine one_ (i := 4) (N := some 14) #[true, true, true, true, true, false, false, false, true, false, false] rfl rfl (one_of HT_.out (by kernel_rfl)) (by decide) (fun K hK => ?_)
     refine goes_ Try.func5 (by kernel_rfl) rfl #[.agg #[.float .f64 t181, .float .f64 t182], .agg #[.float .f64 t183, .float .f64 t184]] (by rfl) rfl rfl (by (try simp only [List.map_toArray, List.map_cons, List.map_nil]); first | done | rfl | (simp only [List.length_drop, List.length_take]; rfl)) ?_
     with_reducible refine (spec_DivTurn.calls k t181 t182 t183 t184 t185 t186 t187 _ A5.out).mono ?_
     rintro e w45 ⟨rfl, hb⟩
     refine ⟨_, rfl, ?_⟩
     have n0_ := Aside0.mk (blk_below (g := gb179) (o := .cells #[.float .f64 a0_0, .float .f64 a0_1] 24 (0, 0)) bkw hb)
     have n1_ := Aside0.mk (blk_below (g := gb180) (o := .cells #[.float .f64 a1_0, .float .f64 a1_1] 24 (0, 0)) bkw hb)
     have n2_ := Aside0.mk (blk_below (g := gb188) (o := .cells #[.float .f64 0, .float .f64 0] 25 (0, 0)) bkw hb)
     have n3_ := Aside0.mk (below_step blw hb)
     clear BK179
     clear BK180
     clear BK188
     clear HB
     have BK179 := n0_
     have BK180 := n1_
     have BK188 := n2_
     have HB := n3_
     clear n0_ n1_ n2_ n3_
     (try clear hb)
     (try clear hb2)
     (try clear hk)
     (try clear hi)
     refine hK.out _ _ ⟨(blk_cell BK179.out 0).trans rfl, (blk_cell BK179.out 1).trans rfl, (blk_cell BK180.out 0).trans rfl, (blk_cell BK180.out 1).trans rfl⟩ (fun hHeld => ?_)
     clear hK K
     refine norm_ (a' := ?_) ?_ ?_
     rotate_left
     ·show Act.put _ (some 14) _ = _
      simp only [Act.put, sp1, sp2, sp3, i64_w, i32_w]
      rfl
     refine pure_ (i := 5) (N := some 9) (v := ?_) (a' := ?_) #[true, true, true, true, true, true, false, false, true, false, false] rfl rfl (any_of HT_.out (by kernel_rfl)) (fun _ _ _ h => h) (Or.inl ⟨by rfl, ?_⟩) ?_ ?_
     rotate_left
     ·intro w'
      go_simp
      with_reducible rfl
     rotate_left
     ·simp only [Act.put, sp1, sp2, sp3, i64_w, i32_w]
      rfl
     refine pure_ (i := 6) (N := some 15) (v := ?_) (a' := ?_) #[true, true, true, true, true, true, true, false, true, false, false] rfl rfl (any_of HT_.out (by kernel_rfl)) (fun _ _ _ h => h) (Or.inl ⟨by rfl, ?_⟩) ?_ ?_
     rotate_left
     ·intro w'
      go_simp
      with_reducible rfl
     rotate_left
     ·simp only [Act.put, sp1, sp2, sp3, i64_w, i32_w]
      rfl
     refine pure_ (i := 7) (N := some 16) (v := ?_) (a' := ?_) #[true, true, true, true, true, true, true, true, true, false, false] rfl rfl (any_of HT_.out (by kernel_rfl)) (fun _ _ _ h => h) (Or.inl ⟨by rfl, ?_⟩) ?_ ?_
     rotate_left
     ·intro w'
      go_simp
      with_reducible rfl
     rotate_left
     ·simp only [Act.put, sp1, sp2, sp3, i64_w, i32_w]
      rfl
     exact norm_ (by simp only [putAll, Act.put, List.setIfInBounds_toArray, List.set_cons_zero, List.set_cons_succ]) (hCont (gb188) _ ⟨hHeld, bkw, bkw, bkw, GW188.out, GE188.out, NB179_188.out, NB188_179.out, NB180_188.out, NB188_180.out, blw⟩)
   rintro gb188 w46 ⟨hS_, h0_, h1_, h2_, h3_, h4_, h5_, h6_, h7_, h8_, h9_⟩
   have n0_ : Aside0 (w46.heap[gb179]? = some (.cells #[.float .f64 a0_0, .float .f64 a0_1] 24 (0, 0))) := ⟨h0_⟩
   have n1_ : Aside0 (w46.heap[gb180]? = some (.cells #[.float .f64 a1_0, .float .f64 a1_1] 24 (0, 0))) := ⟨h1_⟩
   have n2_ : Aside0 (w46.heap[gb188]? = some (.cells #[.float .f64 0, .float .f64 0] 25 (0, 0))) := ⟨h2_⟩
   have n3_ : Aside0 (w.heap.size ≤ gb188) := ⟨h3_⟩
   have n4_ : Aside0 (w.heap.size ≤ gb188) := ⟨h4_⟩
   have n5_ : Aside0 (gb179 ≠ gb188) := ⟨h5_⟩
   have n6_ : Aside0 (gb188 ≠ gb179) := ⟨h6_⟩
   have n7_ : Aside0 (gb180 ≠ gb188) := ⟨h7_⟩
   have n8_ : Aside0 (gb188 ≠ gb180) := ⟨h8_⟩
   have n9_ : Aside0 (Below w.heap.size w w46) := ⟨h9_⟩
   clear BK179
   clear BK180
   clear HB
   clear h0_ h1_ h2_ h3_ h4_ h5_ h6_ h7_ h8_ h9_
   have BK179 := n0_
   have BK180 := n1_
   have BK188 := n2_
   have GW188 := n3_
   have GE188 := n4_
   have NB179_188 := n5_
   have NB188_179 := n6_
   have NB180_188 := n7_
   have NB188_180 := n8_
   have HB := n9_
   clear n0_ n1_ n2_ n3_ n4_ n5_ n6_ n7_ n8_ n9_
   have hHeld : w46.cell? ⟨gb179, 0, none⟩ = some (.float .f64 a0_0) ∧ w46.cell? ⟨gb179, 1, none⟩ = some (.float .f64 a0_1) ∧ w46.cell? ⟨gb180, 0, none⟩ = some (.float .f64 a1_0) ∧ w46.cell? ⟨gb180, 1, none⟩ = some (.float .f64 a1_1) := hS_
   refine norm_ (a' := ?_) ?_ ?_
   rotate_left
   ·simp only [putAll, Act.put, List.setIfInBounds_toArray, List.set_cons_zero, List.set_cons_succ]
    rfl
   refine one_ (i := 9) (N := none) #[true, true, true, true, true, true, true, true, true, true, false] rfl rfl (one_of HT_.out (by kernel_rfl)) (by decide) (fun K hK => ?_)
   have hs47 : w46.cell? ⟨gb188, 0, none⟩ = some (.float .f64 0) := (blk_cell BK188.out 0).trans rfl
   have hfs47 := blk_frozen BK188.out 0
   have hns47_0 := NB179_188.out
   have hns47_1 := NB180_188.out
   have hms47_0 := NB188_179.out
   have hms47_1 := NB188_180.out
   have hs48 : w46.cell? ⟨gb188, 1, none⟩ = some (.float .f64 0) := (blk_cell BK188.out 1).trans rfl
   have hfs48 := blk_frozen BK188.out 1
   have hns48_0 := NB179_188.out
   have hns48_1 := NB180_188.out
   have hms48_0 := NB188_179.out
   have hms48_1 := NB188_180.out
   refine skip_ (w1 := ?_) (by rfl) rfl ?_ ?_
   rotate_left
   ·go_simp
    rfl
   refine hK.out _ _ ⟨((cell_far (p := ⟨gb188, _, none⟩) NB179_188.out _).trans (((cell_far (p := ⟨gb188, _, none⟩) NB179_188.out _).trans (hHeld.1)))), ((cell_far (p := ⟨gb188, _, none⟩) NB179_188.out _).trans (((cell_far (p := ⟨gb188, _, none⟩) NB179_188.out _).trans (hHeld.2.1)))), ((cell_far (p := ⟨gb188, _, none⟩) NB180_188.out _).trans (((cell_far (p := ⟨gb188, _, none⟩) NB180_188.out _).trans (hHeld.2.2.1)))), ((cell_far (p := ⟨gb188, _, none⟩) NB180_188.out _).trans (((cell_far (p := ⟨gb188, _, none⟩) NB180_188.out _).trans (hHeld.2.2.2))))⟩ (fun hHeld => ?_)
   clear hK K
   refine pure_ (i := 10) (N := some 6) (v := ?_) (a' := ?_) #[true, true, true, true, true, true, true, true, true, true, true] rfl rfl (any_of HT_.out (by kernel_rfl)) (fun _ _ _ h => h) (Or.inl ⟨by rfl, ?_⟩) ?_ ?_
   rotate_left
   ·intro w'
    go_simp
    with_reducible rfl
   rotate_left
   ·simp only [Act.put, sp1, sp2, sp3, i64_w, i32_w]
    rfl
   refine done_ (done_of HT_.out (by kernel_rfl)) ?_
   try go_wp2
   have n0_ : Aside0 (((w46.setCell ⟨gb188, 0, none⟩ (.float .f64 t185)).setCell ⟨gb188, 1, none⟩ (.float .f64 t186)).heap[gb179]? = some (.cells #[.float .f64 a0_0, .float .f64 a0_1] 24 (0, 0))) := ⟨by (with_reducible repeat (first | refine blk_drewN ?_ _ | refine blk_drew ?_ | refine blk_alloc ?_ _)); refine blk_far ?_ NB179_188.out _; (with_reducible repeat (first | refine blk_drewN ?_ _ | refine blk_drew ?_ | refine blk_alloc ?_ _)); refine blk_far ?_ NB179_188.out _; (with_reducible repeat (first | refine blk_drewN ?_ _ | refine blk_drew ?_ | refine blk_alloc ?_ _)); exact BK179.out⟩
   have n1_ : Aside0 (((w46.setCell ⟨gb188, 0, none⟩ (.float .f64 t185)).setCell ⟨gb188, 1, none⟩ (.float .f64 t186)).heap[gb180]? = some (.cells #[.float .f64 a1_0, .float .f64 a1_1] 24 (0, 0))) := ⟨by (with_reducible repeat (first | refine blk_drewN ?_ _ | refine blk_drew ?_ | refine blk_alloc ?_ _)); refine blk_far ?_ NB180_188.out _; (with_reducible repeat (first | refine blk_drewN ?_ _ | refine blk_drew ?_ | refine blk_alloc ?_ _)); refine blk_far ?_ NB180_188.out _; (with_reducible repeat (first | refine blk_drewN ?_ _ | refine blk_drew ?_ | refine blk_alloc ?_ _)); exact BK180.out⟩
   have n2_ : Aside0 (((w46.setCell ⟨gb188, 0, none⟩ (.float .f64 t185)).setCell ⟨gb188, 1, none⟩ (.float .f64 t186)).heap[gb188]? = some (.cells #[.float .f64 t185, .float .f64 t186] 25 (0, 0))) := ⟨by (with_reducible repeat (first | refine blk_drewN ?_ _ | refine blk_drew ?_ | refine blk_alloc ?_ _)); refine blk_put (cs := #[.float .f64 t185, .float .f64 0]) ?_ 1 _ rfl; (with_reducible repeat (first | refine blk_drewN ?_ _ | refine blk_drew ?_ | refine blk_alloc ?_ _)); refine blk_put (cs := #[.float .f64 0, .float .f64 0]) ?_ 0 _ rfl; (with_reducible repeat (first | refine blk_drewN ?_ _ | refine blk_drew ?_ | refine blk_alloc ?_ _)); exact BK188.out⟩
   have n3_ : Aside0 (Below w.heap.size w ((w46.setCell ⟨gb188, 0, none⟩ (.float .f64 t185)).setCell ⟨gb188, 1, none⟩ (.float .f64 t186))) := ⟨blw⟩
   (try clear BK179)
   (try clear BK180)
   (try clear BK188)
   (try clear HB)
   generalize ((w46.setCell ⟨gb188, 0, none⟩ (.float .f64 t185)).setCell ⟨gb188, 1, none⟩ (.float .f64 t186)) = w49 at n0_ n1_ n2_ n3_ ⊢
   have BK179 := n0_
   have BK180 := n1_
   have BK188 := n2_
   have HB := n3_
   clear n0_ n1_ n2_ n3_
   have n0_ := Aside0.mk (blk_drew BK179.out)
   have n1_ := Aside0.mk (blk_drew BK180.out)
   have n2_ := Aside0.mk (blk_drew BK188.out)
   have n3_ := Aside0.mk (below_drew1 HB.out)
   clear BK179
   clear BK180
   clear BK188
   clear HB
   have BK179 := n0_
   have BK180 := n1_
   have BK188 := n2_
   have HB := n3_
   clear n0_ n1_ n2_ n3_
   refine start_ (n := 11) (S := fun w' => w'.cell? ⟨gb179, 0, none⟩ = some (.float .f64 a0_0) ∧ w'.cell? ⟨gb179, 1, none⟩ = some (.float .f64 a0_1) ∧ w'.cell? ⟨gb180, 0, none⟩ = some (.float .f64 a1_0) ∧ w'.cell? ⟨gb180, 1, none⟩ = some (.float .f64 a1_1)) (ds := []) #[false, false, false, false, false, false, false, false, false, false, false] (by kernel_rfl) rfl rfl ⟨(blk_cell BK179.out 0).trans rfl, (blk_cell BK179.out 1).trans rfl, (blk_cell BK180.out 0).trans rfl, (blk_cell BK180.out 1).trans rfl⟩ (fun hHeld => ?_); refine with_tabW laws_FnExactDivTurn.tab2 laws_FnExactDivTurn.bits2 (fun HT_ HW_ => ?_)
   generalize w49.drew = w50 at BK179 BK180 BK188 HB hHeld ⊢
   refine take_ (i := 0) (N := some 18) (v := ?_) (a' := ?_) #[true, false, false, false, false, false, false, false, false, false, false] rfl rfl (take_ofW HT_.out HW_.out (by kernel_rfl)) (fun _ _ _ h => h) (Or.inl ⟨by rfl, ?_⟩) hHeld ?_ ?_
   rotate_left
   ·rintro w' ⟨s0, s1, s2, s3⟩
    go_simp
    with_reducible rfl
   rotate_left
   ·simp only [Act.put, sp1, sp2, sp3, i64_w, i32_w]
    rfl
   refine take_ (i := 2) (N := some 20) (v := ?_) (a' := ?_) #[true, false, true, false, false, false, false, false, false, false, false] rfl rfl (take_ofW HT_.out HW_.out (by kernel_rfl)) (fun _ _ _ h => h) (Or.inl ⟨by rfl, ?_⟩) hHeld ?_ ?_
   rotate_left
   ·rintro w' ⟨s0, s1, s2, s3⟩
    go_simp
    with_reducible rfl
   rotate_left
   ·simp only [Act.put, sp1, sp2, sp3, i64_w, i32_w]
    rfl
   refine join_ (σ := Nat) 2 #[true, true, true, true, true, true, true, true, true, false, false] (fun s_ => [(19, .agg #[.float .f64 t189, .float .f64 t190]), (21, .agg #[.float .f64 t191, .float .f64 t192]), (22, .tuple #[.agg #[.float .f64 t193, .float .f64 t194], .bool t195]), (7, .pointer (some ⟨s_, 0, none⟩)), (17, .tuple #[.agg #[.float .f64 t193, .float .f64 t194], .bool t195]), (23, .agg #[.float .f64 t193, .float .f64 t194]), (24, .bool t195)]) (fun s_ w' => (w'.cell? ⟨gb179, 0, none⟩ = some (.float .f64 a0_0) ∧ w'.cell? ⟨gb179, 1, none⟩ = some (.float .f64 a0_1) ∧ w'.cell? ⟨gb180, 0, none⟩ = some (.float .f64 a1_0) ∧ w'.cell? ⟨gb180, 1, none⟩ = some (.float .f64 a1_1)) ∧ (w'.heap[gb179]? = some (.cells #[.float .f64 a0_0, .float .f64 a0_1] 24 (0, 0))) ∧ (w'.heap[gb180]? = some (.cells #[.float .f64 a1_0, .float .f64 a1_1] 24 (0, 0))) ∧ (w'.heap[gb188]? = some (.cells #[.float .f64 t185, .float .f64 t186] 25 (0, 0))) ∧ (w'.heap[s_]? = some (.cells #[.float .f64 0, .float .f64 0] 25 (0, 0))) ∧ (w.heap.size ≤ s_) ∧ (w.heap.size ≤ s_) ∧ (gb179 ≠ s_) ∧ (s_ ≠ gb179) ∧ (gb180 ≠ s_) ∧ (s_ ≠ gb180) ∧ (gb188 ≠ s_) ∧ (s_ ≠ gb188) ∧ (Below w.heap.size w w')) ?_ ?_
   rotate_left
   ·intro hCont
    refine two_ (i := 1) (j := 8) (Ni := some 19) (Nj := some 7) #[true, true, true, false, false, false, false, false, false, false, false] #[true, false, true, false, false, false, false, false, true, false, false] rfl rfl rfl rfl (two_of HT_.out (by kernel_rfl)) (by decide) (by decide) (fun K hK => ?_) (fun K hK => ?_)
    ·skip
     refine goes_ Try.func6 (by kernel_rfl) rfl #[.agg #[.float .f64 a0_0, .float .f64 a0_1]] (by rfl) rfl rfl (by (try simp only [List.map_toArray, List.map_cons, List.map_nil]); first | done | rfl | (simp only [List.length_drop, List.length_take]; rfl)) ?_
     with_reducible refine (laws_toTurn.calls a0_0 a0_1 t189 t190 _ A6.out).mono ?_
     rintro e w51 ⟨rfl, hb⟩
     refine ⟨_, rfl, ?_⟩
     have n0_ := Aside0.mk (blk_below (g := gb179) (o := .cells #[.float .f64 a0_0, .float .f64 a0_1] 24 (0, 0)) bkw hb)
     have n1_ := Aside0.mk (blk_below (g := gb180) (o := .cells #[.float .f64 a1_0, .float .f64 a1_1] 24 (0, 0)) bkw hb)
     have n2_ := Aside0.mk (blk_below (g := gb188) (o := .cells #[.float .f64 t185, .float .f64 t186] 25 (0, 0)) bkw hb)
     have n3_ := Aside0.mk (below_step blw hb)
     clear BK179
     clear BK180
     clear BK188
     clear HB
     have BK179 := n0_
     have BK180 := n1_
     have BK188 := n2_
     have HB := n3_
     clear n0_ n1_ n2_ n3_
     (try clear hb)
     (try clear hb2)
     (try clear hk)
     (try clear hi)
     refine hK.out _ _ ⟨(blk_cell BK179.out 0).trans rfl, (blk_cell BK179.out 1).trans rfl, (blk_cell BK180.out 0).trans rfl, (blk_cell BK180.out 1).trans rfl⟩ (fun hHeld => ?_)
     clear hK K
     refine norm_ (a' := ?_) ?_ ?_
     rotate_left
     ·show Act.put _ (some 19) _ = _
      simp only [Act.put, sp1, sp2, sp3, i64_w, i32_w]
      rfl
     refine two_ (i := 3) (j := 8) (Ni := some 21) (Nj := some 7) #[true, true, true, true, false, false, false, false, false, false, false] #[true, true, true, false, false, false, false, false, true, false, false] rfl rfl rfl rfl (two_of HT_.out (by kernel_rfl)) (by decide) (by decide) (fun K hK => ?_) (fun K hK => ?_)
     ·skip
      refine goes_ Try.func6 (by kernel_rfl) rfl #[.agg #[.float .f64 a1_0, .float .f64 a1_1]] (by rfl) rfl rfl (by (try simp only [List.map_toArray, List.map_cons, List.map_nil]); first | done | rfl | (simp only [List.length_drop, List.length_take]; rfl)) ?_
      with_reducible refine (laws_toTurn.calls a1_0 a1_1 t191 t192 _ A7.out).mono ?_
      rintro e w52 ⟨rfl, hb⟩
      refine ⟨_, rfl, ?_⟩
      have n0_ := Aside0.mk (blk_below (g := gb179) (o := .cells #[.float .f64 a0_0, .float .f64 a0_1] 24 (0, 0)) bkw hb)
      have n1_ := Aside0.mk (blk_below (g := gb180) (o := .cells #[.float .f64 a1_0, .float .f64 a1_1] 24 (0, 0)) bkw hb)
      have n2_ := Aside0.mk (blk_below (g := gb188) (o := .cells #[.float .f64 t185, .float .f64 t186] 25 (0, 0)) bkw hb)
      have n3_ := Aside0.mk (below_step blw hb)
      clear BK179
      clear BK180
      clear BK188
      clear HB
      have BK179 := n0_
      have BK180 := n1_
      have BK188 := n2_
      have HB := n3_
      clear n0_ n1_ n2_ n3_
      (try clear hb)
      (try clear hb2)
      (try clear hk)
      (try clear hi)
      refine hK.out _ _ ⟨(blk_cell BK179.out 0).trans rfl, (blk_cell BK179.out 1).trans rfl, (blk_cell BK180.out 0).trans rfl, (blk_cell BK180.out 1).trans rfl⟩ (fun hHeld => ?_)
      clear hK K
      refine norm_ (a' := ?_) ?_ ?_
      rotate_left
      ·show Act.put _ (some 21) _ = _
       simp only [Act.put, sp1, sp2, sp3, i64_w, i32_w]
       rfl
      refine two_ (i := 4) (j := 8) (Ni := some 22) (Nj := some 7) #[true, true, true, true, true, false, false, false, false, false, false] #[true, true, true, true, false, false, false, false, true, false, false] rfl rfl rfl rfl (two_of HT_.out (by kernel_rfl)) (by decide) (by decide) (fun K hK => ?_) (fun K hK => ?_)
      ·skip
       refine goes_ Try.func7 (by kernel_rfl) rfl #[.agg #[.float .f64 t189, .float .f64 t190], .agg #[.float .f64 t191, .float .f64 t192]] (by rfl) rfl rfl (by (try simp only [List.map_toArray, List.map_cons, List.map_nil]); first | done | rfl | (simp only [List.length_drop, List.length_take]; rfl)) ?_
       with_reducible refine (impl_DivTurn.calls k t189 t190 t191 t192 t193 t194 t195 _ A8.out).mono ?_
       rintro e w53 ⟨rfl, hb⟩
       refine ⟨_, rfl, ?_⟩
       have n0_ := Aside0.mk (blk_below (g := gb179) (o := .cells #[.float .f64 a0_0, .float .f64 a0_1] 24 (0, 0)) bkw hb)
       have n1_ := Aside0.mk (blk_below (g := gb180) (o := .cells #[.float .f64 a1_0, .float .f64 a1_1] 24 (0, 0)) bkw hb)
       have n2_ := Aside0.mk (blk_below (g := gb188) (o := .cells #[.float .f64 t185, .float .f64 t186] 25 (0, 0)) bkw hb)
       have n3_ := Aside0.mk (below_step blw hb)
       clear BK179
       clear BK180
       clear BK188
       clear HB
       have BK179 := n0_
       have BK180 := n1_
       have BK188 := n2_
       have HB := n3_
       clear n0_ n1_ n2_ n3_
       (try clear hb)
       (try clear hb2)
       (try clear hk)
       (try clear hi)
       refine hK.out _ _ ⟨(blk_cell BK179.out 0).trans rfl, (blk_cell BK179.out 1).trans rfl, (blk_cell BK180.out 0).trans rfl, (blk_cell BK180.out 1).trans rfl⟩ (fun hHeld => ?_)
       clear hK K
       refine norm_ (a' := ?_) ?_ ?_
       rotate_left
       ·show Act.put _ (some 22) _ = _
        simp only [Act.put, sp1, sp2, sp3, i64_w, i32_w]
        rfl
       refine pure_ (i := 5) (N := some 17) (v := ?_) (a' := ?_) #[true, true, true, true, true, true, false, false, false, false, false] rfl rfl (any_of HT_.out (by kernel_rfl)) (fun _ _ _ h => h) (Or.inl ⟨by rfl, ?_⟩) ?_ ?_
       rotate_left
       ·intro w'
        go_simp
        with_reducible rfl
       rotate_left
       ·simp only [Act.put, sp1, sp2, sp3, i64_w, i32_w]
        rfl
       refine pure_ (i := 6) (N := some 23) (v := ?_) (a' := ?_) #[true, true, true, true, true, true, true, false, false, false, false] rfl rfl (any_of HT_.out (by kernel_rfl)) (fun _ _ _ h => h) (Or.inl ⟨by rfl, ?_⟩) ?_ ?_
       rotate_left
       ·intro w'
        go_simp
        with_reducible rfl
       rotate_left
       ·simp only [Act.put, sp1, sp2, sp3, i64_w, i32_w]
        rfl
       refine pure_ (i := 7) (N := some 24) (v := ?_) (a' := ?_) #[true, true, true, true, true, true, true, true, false, false, false] rfl rfl (any_of HT_.out (by kernel_rfl)) (fun _ _ _ h => h) (Or.inl ⟨by rfl, ?_⟩) ?_ ?_
       rotate_left
       ·intro w'
        go_simp
        with_reducible rfl
       rotate_left
       ·simp only [Act.put, sp1, sp2, sp3, i64_w, i32_w]
        rfl
       refine one_ (i := 8) (N := some 7) #[true, true, true, true, true, true, true, true, true, false, false] rfl rfl (one_of HT_.out (by kernel_rfl)) (by decide) (fun K hK => ?_)
       refine box_step ?hg (N := 7) ?hd (cs := #[.float .f64 0, .float .f64 0]) (t := 25) ?hr ?_; (case hd => rfl); (case hg => rfl); (case hr => first | (go_simp; done) | (go_simp; rfl))
       intro gb196 hg w54 hbox hb
       have n0_ := Aside0.mk (blk_below (g := gb179) (o := .cells #[.float .f64 a0_0, .float .f64 a0_1] 24 (0, 0)) bkw hb)
       have n1_ := Aside0.mk (blk_below (g := gb180) (o := .cells #[.float .f64 a1_0, .float .f64 a1_1] 24 (0, 0)) bkw hb)
       have n2_ := Aside0.mk (blk_below (g := gb188) (o := .cells #[.float .f64 t185, .float .f64 t186] 25 (0, 0)) bkw hb)
       have n3_ := Aside0.mk (below_step blw hb)
       have n4_ := Aside0.mk (hbox)
       have n5_ := Aside0.mk ((by rw [hg]; exact (below_size blw) : w.heap.size ≤ gb196))
       have n6_ := Aside0.mk ((by rw [hg]; exact (below_size blw) : w.heap.size ≤ gb196))
       have n7_ := Aside0.mk ((by rw [hg]; exact Nat.ne_of_lt (blk_lt (g := gb179) (o := .cells #[.float .f64 a0_0, .float .f64 a0_1] 24 (0, 0)) bkw) : gb179 ≠ gb196))
       have n8_ := Aside0.mk ((by rw [hg]; exact Nat.ne_of_gt (blk_lt (g := gb179) (o := .cells #[.float .f64 a0_0, .float .f64 a0_1] 24 (0, 0)) bkw) : gb196 ≠ gb179))
       have n9_ := Aside0.mk ((by rw [hg]; exact Nat.ne_of_lt (blk_lt (g := gb180) (o := .cells #[.float .f64 a1_0, .float .f64 a1_1] 24 (0, 0)) bkw) : gb180 ≠ gb196))
       have n10_ := Aside0.mk ((by rw [hg]; exact Nat.ne_of_gt (blk_lt (g := gb180) (o := .cells #[.float .f64 a1_0, .float .f64 a1_1] 24 (0, 0)) bkw) : gb196 ≠ gb180))
       have n11_ := Aside0.mk ((by rw [hg]; exact Nat.ne_of_lt (blk_lt (g := gb188) (o := .cells #[.float .f64 t185, .float .f64 t186] 25 (0, 0)) bkw) : gb188 ≠ gb196))
       have n12_ := Aside0.mk ((by rw [hg]; exact Nat.ne_of_gt (blk_lt (g := gb188) (o := .cells #[.float .f64 t185, .float .f64 t186] 25 (0, 0)) bkw) : gb196 ≠ gb188))
       clear BK179
       clear BK180
       clear BK188
       clear HB
       have BK179 := n0_
       have BK180 := n1_
       have BK188 := n2_
       have HB := n3_
       have BK196 := n4_
       have GW196 := n5_
       have GE196 := n6_
       have NB179_196 := n7_
       have NB196_179 := n8_
       have NB180_196 := n9_
       have NB196_180 := n10_
       have NB188_196 := n11_
       have NB196_188 := n12_
       clear n0_ n1_ n2_ n3_ n4_ n5_ n6_ n7_ n8_ n9_ n10_ n11_ n12_
       clear hb hbox hg
       refine hK.out _ _ ⟨(blk_cell BK179.out 0).trans rfl, (blk_cell BK179.out 1).trans rfl, (blk_cell BK180.out 0).trans rfl, (blk_cell BK180.out 1).trans rfl⟩ (fun hHeld => ?_)
       clear hK K
       refine norm_ (a' := ?_) ?_ ?_
       rotate_left
       ·show Act.put _ (some 7) _ = _
        simp only [Act.put, sp1, sp2, sp3, i64_w, i32_w]
        rfl
       exact norm_ (by simp only [putAll, Act.put, List.setIfInBounds_toArray, List.set_cons_zero, List.set_cons_succ]) (hCont (gb196) _ ⟨hHeld, bkw, bkw, bkw, bkw, GW196.out, GE196.out, NB179_196.out, NB196_179.out, NB180_196.out, NB196_180.out, NB188_196.out, NB196_188.out, blw⟩)
      ·skip
       refine box_step ?hg (N := 7) ?hd (cs := #[.float .f64 0, .float .f64 0]) (t := 25) ?hr ?_; (case hd => rfl); (case hg => rfl); (case hr => first | (go_simp; done) | (go_simp; rfl))
       intro gb196 hg w53 hbox hb
       have n0_ := Aside0.mk (blk_below (g := gb179) (o := .cells #[.float .f64 a0_0, .float .f64 a0_1] 24 (0, 0)) bkw hb)
       have n1_ := Aside0.mk (blk_below (g := gb180) (o := .cells #[.float .f64 a1_0, .float .f64 a1_1] 24 (0, 0)) bkw hb)
       have n2_ := Aside0.mk (blk_below (g := gb188) (o := .cells #[.float .f64 t185, .float .f64 t186] 25 (0, 0)) bkw hb)
       have n3_ := Aside0.mk (below_step blw hb)
       have n4_ := Aside0.mk (hbox)
       have n5_ := Aside0.mk ((by rw [hg]; exact (below_size blw) : w.heap.size ≤ gb196))
       have n6_ := Aside0.mk ((by rw [hg]; exact (below_size blw) : w.heap.size ≤ gb196))
       have n7_ := Aside0.mk ((by rw [hg]; exact Nat.ne_of_lt (blk_lt (g := gb179) (o := .cells #[.float .f64 a0_0, .float .f64 a0_1] 24 (0, 0)) bkw) : gb179 ≠ gb196))
       have n8_ := Aside0.mk ((by rw [hg]; exact Nat.ne_of_gt (blk_lt (g := gb179) (o := .cells #[.float .f64 a0_0, .float .f64 a0_1] 24 (0, 0)) bkw) : gb196 ≠ gb179))
       have n9_ := Aside0.mk ((by rw [hg]; exact Nat.ne_of_lt (blk_lt (g := gb180) (o := .cells #[.float .f64 a1_0, .float .f64 a1_1] 24 (0, 0)) bkw) : gb180 ≠ gb196))
       have n10_ := Aside0.mk ((by rw [hg]; exact Nat.ne_of_gt (blk_lt (g := gb180) (o := .cells #[.float .f64 a1_0, .float .f64 a1_1] 24 (0, 0)) bkw) : gb196 ≠ gb180))
       have n11_ := Aside0.mk ((by rw [hg]; exact Nat.ne_of_lt (blk_lt (g := gb188) (o := .cells #[.float .f64 t185, .float .f64 t186] 25 (0, 0)) bkw) : gb188 ≠ gb196))
       have n12_ := Aside0.mk ((by rw [hg]; exact Nat.ne_of_gt (blk_lt (g := gb188) (o := .cells #[.float .f64 t185, .float .f64 t186] 25 (0, 0)) bkw) : gb196 ≠ gb188))
       clear BK179
       clear BK180
       clear BK188
       clear HB
       have BK179 := n0_
       have BK180 := n1_
       have BK188 := n2_
       have HB := n3_
       have BK196 := n4_
       have GW196 := n5_
       have GE196 := n6_
       have NB179_196 := n7_
       have NB196_179 := n8_
       have NB180_196 := n9_
       have NB196_180 := n10_
       have NB188_196 := n11_
       have NB196_188 := n12_
       clear n0_ n1_ n2_ n3_ n4_ n5_ n6_ n7_ n8_ n9_ n10_ n11_ n12_
       clear hb hbox hg
       refine hK.out _ _ ⟨(blk_cell BK179.out 0).trans rfl, (blk_cell BK179.out 1).trans rfl, (blk_cell BK180.out 0).trans rfl, (blk_cell BK180.out 1).trans rfl⟩ (fun hHeld => ?_)
       clear hK K
       refine norm_ (a' := ?_) ?_ ?_
       rotate_left
       ·show Act.put _ (some 7) _ = _
        simp only [Act.put, sp1, sp2, sp3, i64_w, i32_w]
        rfl
       refine one_ (i := 4) (N := some 22) #[true, true, true, true, true, false, false, false, true, false, false] rfl rfl (one_of HT_.out (by kernel_rfl)) (by decide) (fun K hK => ?_)
       refine goes_ Try.func7 (by kernel_rfl) rfl #[.agg #[.float .f64 t189, .float .f64 t190], .agg #[.float .f64 t191, .float .f64 t192]] (by rfl) rfl rfl (by (try simp only [List.map_toArray, List.map_cons, List.map_nil]); first | done | rfl | (simp only [List.length_drop, List.length_take]; rfl)) ?_
       with_reducible refine (impl_DivTurn.calls k t189 t190 t191 t192 t193 t194 t195 _ A8.out).mono ?_
       rintro e w54 ⟨rfl, hb⟩
       refine ⟨_, rfl, ?_⟩
       have n0_ := Aside0.mk (blk_below (g := gb179) (o := .cells #[.float .f64 a0_0, .float .f64 a0_1] 24 (0, 0)) bkw hb)
       have n1_ := Aside0.mk (blk_below (g := gb180) (o := .cells #[.float .f64 a1_0, .float .f64 a1_1] 24 (0, 0)) bkw hb)
       have n2_ := Aside0.mk (blk_below (g := gb188) (o := .cells #[.float .f64 t185, .float .f64 t186] 25 (0, 0)) bkw hb)
       have n3_ := Aside0.mk (blk_below (g := gb196) (o := .cells #[.float .f64 0, .float .f64 0] 25 (0, 0)) bkw hb)
       have n4_ := Aside0.mk (below_step blw hb)
       clear BK179
       clear BK180
       clear BK188
       clear BK196
       clear HB
       have BK179 := n0_
       have BK180 := n1_
       have BK188 := n2_
       have BK196 := n3_
       have HB := n4_
       clear n0_ n1_ n2_ n3_ n4_
       (try clear hb)
       (try clear hb2)
       (try clear hk)
       (try clear hi)
       refine hK.out _ _ ⟨(blk_cell BK179.out 0).trans rfl, (blk_cell BK179.out 1).trans rfl, (blk_cell BK180.out 0).trans rfl, (blk_cell BK180.out 1).trans rfl⟩ (fun hHeld => ?_)
       clear hK K
       refine norm_ (a' := ?_) ?_ ?_
       rotate_left
       ·show Act.put _ (some 22) _ = _
        simp only [Act.put, sp1, sp2, sp3, i64_w, i32_w]
        rfl
       refine pure_ (i := 5) (N := some 17) (v := ?_) (a' := ?_) #[true, true, true, true, true, true, false, false, true, false, false] rfl rfl (any_of HT_.out (by kernel_rfl)) (fun _ _ _ h => h) (Or.inl ⟨by rfl, ?_⟩) ?_ ?_
       rotate_left
       ·intro w'
        go_simp
        with_reducible rfl
       rotate_left
       ·simp only [Act.put, sp1, sp2, sp3, i64_w, i32_w]
        rfl
       refine pure_ (i := 6) (N := some 23) (v := ?_) (a' := ?_) #[true, true, true, true, true, true, true, false, true, false, false] rfl rfl (any_of HT_.out (by kernel_rfl)) (fun _ _ _ h => h) (Or.inl ⟨by rfl, ?_⟩) ?_ ?_
       rotate_left
       ·intro w'
        go_simp
        with_reducible rfl
       rotate_left
       ·simp only [Act.put, sp1, sp2, sp3, i64_w, i32_w]
        rfl
       refine pure_ (i := 7) (N := some 24) (v := ?_) (a' := ?_) #[true, true, true, true, true, true, true, true, true, false, false] rfl rfl (any_of HT_.out (by kernel_rfl)) (fun _ _ _ h => h) (Or.inl ⟨by rfl, ?_⟩) ?_ ?_
       rotate_left
       ·intro w'
        go_simp
        with_reducible rfl
       rotate_left
       ·simp only [Act.put, sp1, sp2, sp3, i64_w, i32_w]
        rfl
       exact norm_ (by simp only [putAll, Act.put, List.setIfInBounds_toArray, List.set_cons_zero, List.set_cons_succ]) (hCont (gb196) _ ⟨hHeld, bkw, bkw, bkw, bkw, GW196.out, GE196.out, NB179_196.out, NB196_179.out, NB180_196.out, NB196_180.out, NB188_196.out, NB196_188.out, blw⟩)
     ·skip
      refine box_step ?hg (N := 7) ?hd (cs := #[.float .f64 0, .float .f64 0]) (t := 25) ?hr ?_; (case hd => rfl); (case hg => rfl); (case hr => first | (go_simp; done) | (go_simp; rfl))
      intro gb196 hg w52 hbox hb
      have n0_ := Aside0.mk (blk_below (g := gb179) (o := .cells #[.float .f64 a0_0, .float .f64 a0_1] 24 (0, 0)) bkw hb)
      have n1_ := Aside0.mk (blk_below (g := gb180) (o := .cells #[.float .f64 a1_0, .float .f64 a1_1] 24 (0, 0)) bkw hb)
      have n2_ := Aside0.mk (blk_below (g := gb188) (o := .cells #[.float .f64 t185, .float .f64 t186] 25 (0, 0)) bkw hb)
      have n3_ := Aside0.mk (below_step blw hb)
      have n4_ := Aside0.mk (hbox)
      have n5_ := Aside0.mk ((by rw [hg]; exact (below_size blw) : w.heap.size ≤ gb196))
      have n6_ := Aside0.mk ((by rw [hg]; exact (below_size blw) : w.heap.size ≤ gb196))
      have n7_ := Aside0.mk ((by rw [hg]; exact Nat.ne_of_lt (blk_lt (g := gb179) (o := .cells #[.float .f64 a0_0, .float .f64 a0_1] 24 (0, 0)) bkw) : gb179 ≠ gb196))
      have n8_ := Aside0.mk ((by rw [hg]; exact Nat.ne_of_gt (blk_lt (g := gb179) (o := .cells #[.float .f64 a0_0, .float .f64 a0_1] 24 (0, 0)) bkw) : gb196 ≠ gb179))
      have n9_ := Aside0.mk ((by rw [hg]; exact Nat.ne_of_lt (blk_lt (g := gb180) (o := .cells #[.float .f64 a1_0, .float .f64 a1_1] 24 (0, 0)) bkw) : gb180 ≠ gb196))
      have n10_ := Aside0.mk ((by rw [hg]; exact Nat.ne_of_gt (blk_lt (g := gb180) (o := .cells #[.float .f64 a1_0, .float .f64 a1_1] 24 (0, 0)) bkw) : gb196 ≠ gb180))
      have n11_ := Aside0.mk ((by rw [hg]; exact Nat.ne_of_lt (blk_lt (g := gb188) (o := .cells #[.float .f64 t185, .float .f64 t186] 25 (0, 0)) bkw) : gb188 ≠ gb196))
      have n12_ := Aside0.mk ((by rw [hg]; exact Nat.ne_of_gt (blk_lt (g := gb188) (o := .cells #[.float .f64 t185, .float .f64 t186] 25 (0, 0)) bkw) : gb196 ≠ gb188))
      clear BK179
      clear BK180
      clear BK188
      clear HB
      have BK179 := n0_
      have BK180 := n1_
      have BK188 := n2_
      have HB := n3_
      have BK196 := n4_
      have GW196 := n5_
      have GE196 := n6_
      have NB179_196 := n7_
      have NB196_179 := n8_
      have NB180_196 := n9_
      have NB196_180 := n10_
      have NB188_196 := n11_
      have NB196_188 := n12_
      clear n0_ n1_ n2_ n3_ n4_ n5_ n6_ n7_ n8_ n9_ n10_ n11_ n12_
      clear hb hbox hg
      refine hK.out _ _ ⟨(blk_cell BK179.out 0).trans rfl, (blk_cell BK179.out 1).trans rfl, (blk_cell BK180.out 0).trans rfl, (blk_cell BK180.out 1).trans rfl⟩ (fun hHeld => ?_)
      clear hK K
      refine norm_ (a' := ?_) ?_ ?_
      rotate_left
      ·show Act.put _ (some 7) _ = _
       simp only [Act.put, sp1, sp2, sp3, i64_w, i32_w]
       rfl
      refine one_ (i := 3) (N := some 21) #[true, true, true, true, false, false, false, false, true, false, false] rfl rfl (one_of HT_.out (by kernel_rfl)) (by decide) (fun K hK => ?_)
      refine goes_ Try.func6 (by kernel_rfl) rfl #[.agg #[.float .f64 a1_0, .float .f64 a1_1]] (by rfl) rfl rfl (by (try simp only [List.map_toArray, List.map_cons, List.map_nil]); first | done | rfl | (simp only [List.length_drop, List.length_take]; rfl)) ?_
      with_reducible refine (laws_toTurn.calls a1_0 a1_1 t191 t192 _ A7.out).mono ?_
      rintro e w53 ⟨rfl, hb⟩
      refine ⟨_, rfl, ?_⟩
      have n0_ := Aside0.mk (blk_below (g := gb179) (o := .cells #[.float .f64 a0_0, .float .f64 a0_1] 24 (0, 0)) bkw hb)
      have n1_ := Aside0.mk (blk_below (g := gb180) (o := .cells #[.float .f64 a1_0, .float .f64 a1_1] 24 (0, 0)) bkw hb)
      have n2_ := Aside0.mk (blk_below (g := gb188) (o := .cells #[.float .f64 t185, .float .f64 t186] 25 (0, 0)) bkw hb)
      have n3_ := Aside0.mk (blk_below (g := gb196) (o := .cells #[.float .f64 0, .float .f64 0] 25 (0, 0)) bkw hb)
      have n4_ := Aside0.mk (below_step blw hb)
      clear BK179
      clear BK180
      clear BK188
      clear BK196
      clear HB
      have BK179 := n0_
      have BK180 := n1_
      have BK188 := n2_
      have BK196 := n3_
      have HB := n4_
      clear n0_ n1_ n2_ n3_ n4_
      (try clear hb)
      (try clear hb2)
      (try clear hk)
      (try clear hi)
      refine hK.out _ _ ⟨(blk_cell BK179.out 0).trans rfl, (blk_cell BK179.out 1).trans rfl, (blk_cell BK180.out 0).trans rfl, (blk_cell BK180.out 1).trans rfl⟩ (fun hHeld => ?_)
      clear hK K
      refine norm_ (a' := ?_) ?_ ?_
      rotate_left
      ·show Act.put _ (some 21) _ = _
       simp only [Act.put, sp1, sp2, sp3, i64_w, i32_w]
       rfl
      refine one_ (i := 4) (N := some 22) #[true, true, true, true, true, false, false, false, true, false, false] rfl rfl (one_of HT_.out (by kernel_rfl)) (by decide) (fun K hK => ?_)
      refine goes_ Try.func7 (by kernel_rfl) rfl #[.agg #[.float .f64 t189, .float .f64 t190], .agg #[.float .f64 t191, .float .f64 t192]] (by rfl) rfl rfl (by (try simp only [List.map_toArray, List.map_cons, List.map_nil]); first | done | rfl | (simp only [List.length_drop, List.length_take]; rfl)) ?_
      with_reducible refine (impl_DivTurn.calls k t189 t190 t191 t192 t193 t194 t195 _ A8.out).mono ?_
      rintro e w54 ⟨rfl, hb⟩
      refine ⟨_, rfl, ?_⟩
      have n0_ := Aside0.mk (blk_below (g := gb179) (o := .cells #[.float .f64 a0_0, .float .f64 a0_1] 24 (0, 0)) bkw hb)
      have n1_ := Aside0.mk (blk_below (g := gb180) (o := .cells #[.float .f64 a1_0, .float .f64 a1_1] 24 (0, 0)) bkw hb)
      have n2_ := Aside0.mk (blk_below (g := gb188) (o := .cells #[.float .f64 t185, .float .f64 t186] 25 (0, 0)) bkw hb)
      have n3_ := Aside0.mk (blk_below (g := gb196) (o := .cells #[.float .f64 0, .float .f64 0] 25 (0, 0)) bkw hb)
      have n4_ := Aside0.mk (below_step blw hb)
      clear BK179
      clear BK180
      clear BK188
      clear BK196
      clear HB
      have BK179 := n0_
      have BK180 := n1_
      have BK188 := n2_
      have BK196 := n3_
      have HB := n4_
      clear n0_ n1_ n2_ n3_ n4_
      (try clear hb)
      (try clear hb2)
      (try clear hk)
      (try clear hi)
      refine hK.out _ _ ⟨(blk_cell BK179.out 0).trans rfl, (blk_cell BK179.out 1).trans rfl, (blk_cell BK180.out 0).trans rfl, (blk_cell BK180.out 1).trans rfl⟩ (fun hHeld => ?_)
      clear hK K
      refine norm_ (a' := ?_) ?_ ?_
      rotate_left
      ·show Act.put _ (some 22) _ = _
       simp only [Act.put, sp1, sp2, sp3, i64_w, i32_w]
       rfl
      refine pure_ (i := 5) (N := some 17) (v := ?_) (a' := ?_) #[true, true, true, true, true, true, false, false, true, false, false] rfl rfl (any_of HT_.out (by kernel_rfl)) (fun _ _ _ h => h) (Or.inl ⟨by rfl, ?_⟩) ?_ ?_
      rotate_left
      ·intro w'
       go_simp
       with_reducible rfl
      rotate_left
      ·simp only [Act.put, sp1, sp2, sp3, i64_w, i32_w]
       rfl
      refine pure_ (i := 6) (N := some 23) (v := ?_) (a' := ?_) #[true, true, true, true, true, true, true, false, true, false, false] rfl rfl (any_of HT_.out (by kernel_rfl)) (fun _ _ _ h => h) (Or.inl ⟨by rfl, ?_⟩) ?_ ?_
      rotate_left
      ·intro w'
       go_simp
       with_reducible rfl
      rotate_left
      ·simp only [Act.put, sp1, sp2, sp3, i64_w, i32_w]
       rfl
      refine pure_ (i := 7) (N := some 24) (v := ?_) (a' := ?_) #[true, true, true, true, true, true, true, true, true, false, false] rfl rfl (any_of HT_.out (by kernel_rfl)) (fun _ _ _ h => h) (Or.inl ⟨by rfl, ?_⟩) ?_ ?_
      rotate_left
      ·intro w'
       go_simp
       with_reducible rfl
      rotate_left
      ·simp only [Act.put, sp1, sp2, sp3, i64_w, i32_w]
       rfl
      exact norm_ (by simp only [putAll, Act.put, List.setIfInBounds_toArray, List.set_cons_zero, List.set_cons_succ]) (hCont (gb196) _ ⟨hHeld, bkw, bkw, bkw, bkw, GW196.out, GE196.out, NB179_196.out, NB196_179.out, NB180_196.out, NB196_180.out, NB188_196.out, NB196_188.out, blw⟩)
    ·skip
     refine box_step ?hg (N := 7) ?hd (cs := #[.float .f64 0, .float .f64 0]) (t := 25) ?hr ?_; (case hd => rfl); (case hg => rfl); (case hr => first | (go_simp; done) | (go_simp; rfl))
     intro gb196 hg w51 hbox hb
     have n0_ := Aside0.mk (blk_below (g := gb179) (o := .cells #[.float .f64 a0_0, .float .f64 a0_1] 24 (0, 0)) bkw hb)
     have n1_ := Aside0.mk (blk_below (g := gb180) (o := .cells #[.float .f64 a1_0, .float .f64 a1_1] 24 (0, 0)) bkw hb)
     have n2_ := Aside0.mk (blk_below (g := gb188) (o := .cells #[.float .f64 t185, .float .f64 t186] 25 (0, 0)) bkw hb)
     have n3_ := Aside0.mk (below_step blw hb)
     have n4_ := Aside0.mk (hbox)
     have n5_ := Aside0.mk ((by rw [hg]; exact (below_size blw) : w.heap.size ≤ gb196))
     have n6_ := Aside0.mk ((by rw [hg]; exact (below_size blw) : w.heap.size ≤ gb196))
     have n7_ := Aside0.mk ((by rw [hg]; exact Nat.ne_of_lt (blk_lt (g := gb179) (o := .cells #[.float .f64 a0_0, .float .f64 a0_1] 24 (0, 0)) bkw) : gb179 ≠ gb196))
     have n8_ := Aside0.mk ((by rw [hg]; exact Nat.ne_of_gt (blk_lt (g := gb179) (o := .cells #[.float .f64 a0_0, .float .f64 a0_1] 24 (0, 0)) bkw) : gb196 ≠ gb179))
     have n9_ := Aside0.mk ((by rw [hg]; exact Nat.ne_of_lt (blk_lt (g := gb180) (o := .cells #[.float .f64 a1_0, .float .f64 a1_1] 24 (0, 0)) bkw) : gb180 ≠ gb196))
     have n10_ := Aside0.mk ((by rw [hg]; exact Nat.ne_of_gt (blk_lt (g := gb180) (o := .cells #[.float .f64 a1_0, .float .f64 a1_1] 24 (0, 0)) bkw) : gb196 ≠ gb180))
     have n11_ := Aside0.mk ((by rw [hg]; exact Nat.ne_of_lt (blk_lt (g := gb188) (o := .cells #[.float .f64 t185, .float .f64 t186] 25 (0, 0)) bkw) : gb188 ≠ gb196))
     have n12_ := Aside0.mk ((by rw [hg]; exact Nat.ne_of_gt (blk_lt (g := gb188) (o := .cells #[.float .f64 t185, .float .f64 t186] 25 (0, 0)) bkw) : gb196 ≠ gb188))
     clear BK179
     clear BK180
     clear BK188
     clear HB
     have BK179 := n0_
     have BK180 := n1_
     have BK188 := n2_
     have HB := n3_
     have BK196 := n4_
     have GW196 := n5_
     have GE196 := n6_
     have NB179_196 := n7_
     have NB196_179 := n8_
     have NB180_196 := n9_
     have NB196_180 := n10_
     have NB188_196 := n11_
     have NB196_188 := n12_
     clear n0_ n1_ n2_ n3_ n4_ n5_ n6_ n7_ n8_ n9_ n10_ n11_ n12_
     clear hb hbox hg
     refine hK.out _ _ ⟨(blk_cell BK179.out 0).trans rfl, (blk_cell BK179.out 1).trans rfl, (blk_cell BK180.out 0).trans rfl, (blk_cell BK180.out 1).trans rfl⟩ (fun hHeld => ?_)
     clear hK K
     refine norm_ (a' := ?_) ?_ ?_
     rotate_left
     ·show Act.put _ (some 7) _ = _
      simp only [Act.put, sp1, sp2, sp3, i64_w, i32_w]
      rfl
     refine one_ (i := 1) (N := some 19) #[true, true, true, false, false, false, false, false, true, false, false] rfl rfl (one_of HT_.out (by kernel_rfl)) (by decide) (fun K hK => ?_)
     refine goes_ Try.func6 (by kernel_rfl) rfl #[.agg #[.float .f64 a0_0, .float .f64 a0_1]] (by rfl) rfl rfl (by (try simp only [List.map_toArray, List.map_cons, List.map_nil]); first | done | rfl | (simp only [List.length_drop, List.length_take]; rfl)) ?_
     with_reducible refine (laws_toTurn.calls a0_0 a0_1 t189 t190 _ A6.out).mono ?_
     rintro e w52 ⟨rfl, hb⟩
     refine ⟨_, rfl, ?_⟩
     have n0_ := Aside0.mk (blk_below (g := gb179) (o := .cells #[.float .f64 a0_0, .float .f64 a0_1] 24 (0, 0)) bkw hb)
     have n1_ := Aside0.mk (blk_below (g := gb180) (o := .cells #[.float .f64 a1_0, .float .f64 a1_1] 24 (0, 0)) bkw hb)
     have n2_ := Aside0.mk (blk_below (g := gb188) (o := .cells #[.float .f64 t185, .float .f64 t186] 25 (0, 0)) bkw hb)
     have n3_ := Aside0.mk (blk_below (g := gb196) (o := .cells #[.float .f64 0, .float .f64 0] 25 (0, 0)) bkw hb)
     have n4_ := Aside0.mk (below_step blw hb)
     clear BK179
     clear BK180
     clear BK188
     clear BK196
     clear HB
     have BK179 := n0_
     have BK180 := n1_
     have BK188 := n2_
     have BK196 := n3_
     have HB := n4_
     clear n0_ n1_ n2_ n3_ n4_
     (try clear hb)
     (try clear hb2)
     (try clear hk)
     (try clear hi)
     refine hK.out _ _ ⟨(blk_cell BK179.out 0).trans rfl, (blk_cell BK179.out 1).trans rfl, (blk_cell BK180.out 0).trans rfl, (blk_cell BK180.out 1).trans rfl⟩ (fun hHeld => ?_)
     clear hK K
     refine norm_ (a' := ?_) ?_ ?_
     rotate_left
     ·show Act.put _ (some 19) _ = _
      simp only [Act.put, sp1, sp2, sp3, i64_w, i32_w]
      rfl
     refine one_ (i := 3) (N := some 21) #[true, true, true, true, false, false, false, false, true, false, false] rfl rfl (one_of HT_.out (by kernel_rfl)) (by decide) (fun K hK => ?_)
     refine goes_ Try.func6 (by kernel_rfl) rfl #[.agg #[.float .f64 a1_0, .float .f64 a1_1]] (by rfl) rfl rfl (by (try simp only [List.map_toArray, List.map_cons, List.map_nil]); first | done | rfl | (simp only [List.length_drop, List.length_take]; rfl)) ?_
     with_reducible refine (laws_toTurn.calls a1_0 a1_1 t191 t192 _ A7.out).mono ?_
     rintro e w53 ⟨rfl, hb⟩
     refine ⟨_, rfl, ?_⟩
     have n0_ := Aside0.mk (blk_below (g := gb179) (o := .cells #[.float .f64 a0_0, .float .f64 a0_1] 24 (0, 0)) bkw hb)
     have n1_ := Aside0.mk (blk_below (g := gb180) (o := .cells #[.float .f64 a1_0, .float .f64 a1_1] 24 (0, 0)) bkw hb)
     have n2_ := Aside0.mk (blk_below (g := gb188) (o := .cells #[.float .f64 t185, .float .f64 t186] 25 (0, 0)) bkw hb)
     have n3_ := Aside0.mk (blk_below (g := gb196) (o := .cells #[.float .f64 0, .float .f64 0] 25 (0, 0)) bkw hb)
     have n4_ := Aside0.mk (below_step blw hb)
     clear BK179
     clear BK180
     clear BK188
     clear BK196
     clear HB
     have BK179 := n0_
     have BK180 := n1_
     have BK188 := n2_
     have BK196 := n3_
     have HB := n4_
     clear n0_ n1_ n2_ n3_ n4_
     (try clear hb)
     (try clear hb2)
     (try clear hk)
     (try clear hi)
     refine hK.out _ _ ⟨(blk_cell BK179.out 0).trans rfl, (blk_cell BK179.out 1).trans rfl, (blk_cell BK180.out 0).trans rfl, (blk_cell BK180.out 1).trans rfl⟩ (fun hHeld => ?_)
     clear hK K
     refine norm_ (a' := ?_) ?_ ?_
     rotate_left
     ·show Act.put _ (some 21) _ = _
      simp only [Act.put, sp1, sp2, sp3, i64_w, i32_w]
      rfl
     refine one_ (i := 4) (N := some 22) #[true, true, true, true, true, false, false, false, true, false, false] rfl rfl (one_of HT_.out (by kernel_rfl)) (by decide) (fun K hK => ?_)
     refine goes_ Try.func7 (by kernel_rfl) rfl #[.agg #[.float .f64 t189, .float .f64 t190], .agg #[.float .f64 t191, .float .f64 t192]] (by rfl) rfl rfl (by (try simp only [List.map_toArray, List.map_cons, List.map_nil]); first | done | rfl | (simp only [List.length_drop, List.length_take]; rfl)) ?_
     with_reducible refine (impl_DivTurn.calls k t189 t190 t191 t192 t193 t194 t195 _ A8.out).mono ?_
     rintro e w54 ⟨rfl, hb⟩
     refine ⟨_, rfl, ?_⟩
     have n0_ := Aside0.mk (blk_below (g := gb179) (o := .cells #[.float .f64 a0_0, .float .f64 a0_1] 24 (0, 0)) bkw hb)
     have n1_ := Aside0.mk (blk_below (g := gb180) (o := .cells #[.float .f64 a1_0, .float .f64 a1_1] 24 (0, 0)) bkw hb)
     have n2_ := Aside0.mk (blk_below (g := gb188) (o := .cells #[.float .f64 t185, .float .f64 t186] 25 (0, 0)) bkw hb)
     have n3_ := Aside0.mk (blk_below (g := gb196) (o := .cells #[.float .f64 0, .float .f64 0] 25 (0, 0)) bkw hb)
     have n4_ := Aside0.mk (below_step blw hb)
     clear BK179
     clear BK180
     clear BK188
     clear BK196
     clear HB
     have BK179 := n0_
     have BK180 := n1_
     have BK188 := n2_
     have BK196 := n3_
     have HB := n4_
     clear n0_ n1_ n2_ n3_ n4_
     (try clear hb)
     (try clear hb2)
     (try clear hk)
     (try clear hi)
     refine hK.out _ _ ⟨(blk_cell BK179.out 0).trans rfl, (blk_cell BK179.out 1).trans rfl, (blk_cell BK180.out 0).trans rfl, (blk_cell BK180.out 1).trans rfl⟩ (fun hHeld => ?_)
     clear hK K
     refine norm_ (a' := ?_) ?_ ?_
     rotate_left
     ·show Act.put _ (some 22) _ = _
      simp only [Act.put, sp1, sp2, sp3, i64_w, i32_w]
      rfl
     refine pure_ (i := 5) (N := some 17) (v := ?_) (a' := ?_) #[true, true, true, true, true, true, false, false, true, false, false] rfl rfl (any_of HT_.out (by kernel_rfl)) (fun _ _ _ h => h) (Or.inl ⟨by rfl, ?_⟩) ?_ ?_
     rotate_left
     ·intro w'
      go_simp
      with_reducible rfl
     rotate_left
     ·simp only [Act.put, sp1, sp2, sp3, i64_w, i32_w]
      rfl
     refine pure_ (i := 6) (N := some 23) (v := ?_) (a' := ?_) #[true, true, true, true, true, true, true, false, true, false, false] rfl rfl (any_of HT_.out (by kernel_rfl)) (fun _ _ _ h => h) (Or.inl ⟨by rfl, ?_⟩) ?_ ?_
     rotate_left
     ·intro w'
      go_simp
      with_reducible rfl
     rotate_left
     ·simp only [Act.put, sp1, sp2, sp3, i64_w, i32_w]
      rfl
     refine pure_ (i := 7) (N := some 24) (v := ?_) (a' := ?_) #[true, true, true, true, true, true, true, true, true, false, false] rfl rfl (any_of HT_.out (by kernel_rfl)) (fun _ _ _ h => h) (Or.inl ⟨by rfl, ?_⟩) ?_ ?_
     rotate_left
     ·intro w'
      go_simp
      with_reducible rfl
     rotate_left
     ·simp only [Act.put, sp1, sp2, sp3, i64_w, i32_w]
      rfl
     exact norm_ (by simp only [putAll, Act.put, List.setIfInBounds_toArray, List.set_cons_zero, List.set_cons_succ]) (hCont (gb196) _ ⟨hHeld, bkw, bkw, bkw, bkw, GW196.out, GE196.out, NB179_196.out, NB196_179.out, NB180_196.out, NB196_180.out, NB188_196.out, NB196_188.out, blw⟩)
   rintro gb196 w55 ⟨hS_, h0_, h1_, h2_, h3_, h4_, h5_, h6_, h7_, h8_, h9_, h10_, h11_, h12_⟩
   have n0_ : Aside0 (w55.heap[gb179]? = some (.cells #[.float .f64 a0_0, .float .f64 a0_1] 24 (0, 0))) := ⟨h0_⟩
   have n1_ : Aside0 (w55.heap[gb180]? = some (.cells #[.float .f64 a1_0, .float .f64 a1_1] 24 (0, 0))) := ⟨h1_⟩
   have n2_ : Aside0 (w55.heap[gb188]? = some (.cells #[.float .f64 t185, .float .f64 t186] 25 (0, 0))) := ⟨h2_⟩
   have n3_ : Aside0 (w55.heap[gb196]? = some (.cells #[.float .f64 0, .float .f64 0] 25 (0, 0))) := ⟨h3_⟩
   have n4_ : Aside0 (w.heap.size ≤ gb196) := ⟨h4_⟩
   have n5_ : Aside0 (w.heap.size ≤ gb196) := ⟨h5_⟩
   have n6_ : Aside0 (gb179 ≠ gb196) := ⟨h6_⟩
   have n7_ : Aside0 (gb196 ≠ gb179) := ⟨h7_⟩
   have n8_ : Aside0 (gb180 ≠ gb196) := ⟨h8_⟩
   have n9_ : Aside0 (gb196 ≠ gb180) := ⟨h9_⟩
   have n10_ : Aside0 (gb188 ≠ gb196) := ⟨h10_⟩
   have n11_ : Aside0 (gb196 ≠ gb188) := ⟨h11_⟩
   have n12_ : Aside0 (Below w.heap.size w w55) := ⟨h12_⟩
   clear BK179
   clear BK180
   clear BK188
   clear HB
   clear h0_ h1_ h2_ h3_ h4_ h5_ h6_ h7_ h8_ h9_ h10_ h11_ h12_
   have BK179 := n0_
   have BK180 := n1_
   have BK188 := n2_
   have BK196 := n3_
   have GW196 := n4_
   have GE196 := n5_
   have NB179_196 := n6_
   have NB196_179 := n7_
   have NB180_196 := n8_
   have NB196_180 := n9_
   have NB188_196 := n10_
   have NB196_188 := n11_
   have HB := n12_
   clear n0_ n1_ n2_ n3_ n4_ n5_ n6_ n7_ n8_ n9_ n10_ n11_ n12_
   have hHeld : w55.cell? ⟨gb179, 0, none⟩ = some (.float .f64 a0_0) ∧ w55.cell? ⟨gb179, 1, none⟩ = some (.float .f64 a0_1) ∧ w55.cell? ⟨gb180, 0, none⟩ = some (.float .f64 a1_0) ∧ w55.cell? ⟨gb180, 1, none⟩ = some (.float .f64 a1_1) := hS_
   refine norm_ (a' := ?_) ?_ ?_
   rotate_left
   ·simp only [putAll, Act.put, List.setIfInBounds_toArray, List.set_cons_zero, List.set_cons_succ]
    rfl
   refine one_ (i := 9) (N := none) #[true, true, true, true, true, true, true, true, true, true, false] rfl rfl (one_of HT_.out (by kernel_rfl)) (by decide) (fun K hK => ?_)
   have hs56 : w55.cell? ⟨gb196, 0, none⟩ = some (.float .f64 0) := (blk_cell BK196.out 0).trans rfl
   have hfs56 := blk_frozen BK196.out 0
   have hns56_0 := NB179_196.out
   have hns56_1 := NB180_196.out
   have hns56_2 := NB188_196.out
   have hms56_0 := NB196_179.out
   have hms56_1 := NB196_180.out
   have hms56_2 := NB196_188.out
   have hs57 : w55.cell? ⟨gb196, 1, none⟩ = some (.float .f64 0) := (blk_cell BK196.out 1).trans rfl
   have hfs57 := blk_frozen BK196.out 1
   have hns57_0 := NB179_196.out
   have hns57_1 := NB180_196.out
   have hns57_2 := NB188_196.out
   have hms57_0 := NB196_179.out
   have hms57_1 := NB196_180.out
   have hms57_2 := NB196_188.out
   refine skip_ (w1 := ?_) (by rfl) rfl ?_ ?_
   rotate_left
   ·go_simp
    rfl
   refine hK.out _ _ ⟨((cell_far (p := ⟨gb196, _, none⟩) NB179_196.out _).trans (((cell_far (p := ⟨gb196, _, none⟩) NB179_196.out _).trans (hHeld.1)))), ((cell_far (p := ⟨gb196, _, none⟩) NB179_196.out _).trans (((cell_far (p := ⟨gb196, _, none⟩) NB179_196.out _).trans (hHeld.2.1)))), ((cell_far (p := ⟨gb196, _, none⟩) NB180_196.out _).trans (((cell_far (p := ⟨gb196, _, none⟩) NB180_196.out _).trans (hHeld.2.2.1)))), ((cell_far (p := ⟨gb196, _, none⟩) NB180_196.out _).trans (((cell_far (p := ⟨gb196, _, none⟩) NB180_196.out _).trans (hHeld.2.2.2))))⟩ (fun hHeld => ?_)
   clear hK K
   refine pure_ (i := 10) (N := some 8) (v := ?_) (a' := ?_) #[true, true, true, true, true, true, true, true, true, true, true] rfl rfl (any_of HT_.out (by kernel_rfl)) (fun _ _ _ h => h) (Or.inl ⟨by rfl, ?_⟩) ?_ ?_
   rotate_left
   ·intro w'
    go_simp
    with_reducible rfl
   rotate_left
   ·simp only [Act.put, sp1, sp2, sp3, i64_w, i32_w]
    rfl
   refine done_ (done_of HT_.out (by kernel_rfl)) ?_
   have hnb58 := NB196_179.out
   have hnc58 := NB179_196.out
   have hnb59 := NB196_180.out
   have hnc59 := NB180_196.out
   have hnb60 := NB196_188.out
   have hnc60 := NB188_196.out
   have hcz61_0 : w55.cell? ⟨gb196, 0, none⟩ = some (.float .f64 0) := (blk_cell BK196.out 0).trans rfl
   have hcz61_1 : w55.cell? ⟨gb196, 1, none⟩ = some (.float .f64 0) := (blk_cell BK196.out 1).trans rfl
   have hfz61_0 := blk_frozen BK196.out 0
   have hfz61_1 := blk_frozen BK196.out 1
   have hnb62 := NB188_179.out
   have hnc62 := NB179_188.out
   have hnb63 := NB188_180.out
   have hnc63 := NB180_188.out
   have hcz64_0 : w55.cell? ⟨gb188, 0, none⟩ = some (.float .f64 t185) := (blk_cell BK188.out 0).trans rfl
   have hcz64_1 : w55.cell? ⟨gb188, 1, none⟩ = some (.float .f64 t186) := (blk_cell BK188.out 1).trans rfl
   have hfz64_0 := blk_frozen BK188.out 0
   have hfz64_1 := blk_frozen BK188.out 1
   try go_wp2_with (first | ((with_reducible refine gate_callee (f := 8) rfl ?_); refine goesL_ (some 27) rfl rfl Try.func8 (by kernel_rfl) rfl #[.agg #[.float .f64 t193, .float .f64 t194], .agg #[.float .f64 t185, .float .f64 t186]] rfl (by (try simp only [List.map_toArray, List.map_cons, List.map_nil]); first | done | rfl | (simp only [List.length_drop, List.length_take]; rfl)) ?_; (with_reducible refine (laws_eqTurn.calls t193 t194 t185 t186 true _ A9.out).mono ?_); rintro e w65 ⟨rfl, hb⟩; refine ⟨_, rfl, ?_⟩; have n0_ := Aside0.mk (blk_below (g := gb179) (o := .cells #[.float .f64 a0_0, .float .f64 a0_1] 24 (0, 0)) (by (with_reducible repeat (first | refine blk_drewN ?_ _ | refine blk_drew ?_ | refine blk_alloc ?_ _)); refine blk_far ?_ NB179_196.out _; (with_reducible repeat (first | refine blk_drewN ?_ _ | refine blk_drew ?_ | refine blk_alloc ?_ _)); refine blk_far ?_ NB179_196.out _; (with_reducible repeat (first | refine blk_drewN ?_ _ | refine blk_drew ?_ | refine blk_alloc ?_ _)); exact BK179.out) hb); have n1_ := Aside0.mk (blk_below (g := gb180) (o := .cells #[.float .f64 a1_0, .float .f64 a1_1] 24 (0, 0)) (by (with_reducible repeat (first | refine blk_drewN ?_ _ | refine blk_drew ?_ | refine blk_alloc ?_ _)); refine blk_far ?_ NB180_196.out _; (with_reducible repeat (first | refine blk_drewN ?_ _ | refine blk_drew ?_ | refine blk_alloc ?_ _)); refine blk_far ?_ NB180_196.out _; (with_reducible repeat (first | refine blk_drewN ?_ _ | refine blk_drew ?_ | refine blk_alloc ?_ _)); exact BK180.out) hb); have n2_ := Aside0.mk (blk_below (g := gb188) (o := .cells #[.float .f64 t185, .float .f64 t186] 25 (0, 0)) (by (with_reducible repeat (first | refine blk_drewN ?_ _ | refine blk_drew ?_ | refine blk_alloc ?_ _)); refine blk_far ?_ NB188_196.out _; (with_reducible repeat (first | refine blk_drewN ?_ _ | refine blk_drew ?_ | refine blk_alloc ?_ _)); refine blk_far ?_ NB188_196.out _; (with_reducible repeat (first | refine blk_drewN ?_ _ | refine blk_drew ?_ | refine blk_alloc ?_ _)); exact BK188.out) hb); have n3_ := Aside0.mk (blk_below (g := gb196) (o := .cells #[.float .f64 t193, .float .f64 t194] 25 (0, 0)) (by (with_reducible repeat (first | refine blk_drewN ?_ _ | refine blk_drew ?_ | refine blk_alloc ?_ _)); refine blk_put (cs := #[.float .f64 t193, .float .f64 0]) ?_ 1 _ rfl; (with_reducible repeat (first | refine blk_drewN ?_ _ | refine blk_drew ?_ | refine blk_alloc ?_ _)); refine blk_put (cs := #[.float .f64 0, .float .f64 0]) ?_ 0 _ rfl; (with_reducible repeat (first | refine blk_drewN ?_ _ | refine blk_drew ?_ | refine blk_alloc ?_ _)); exact BK196.out) hb); have n4_ := Aside0.mk (below_step blw hb); clear BK179; clear BK180; clear BK188; clear BK196; clear HB; have BK179 := n0_; have BK180 := n1_; have BK188 := n2_; have BK196 := n3_; have HB := n4_; clear n0_ n1_ n2_ n3_ n4_; (try clear hb); (try clear hb2); (try clear hk); (try clear hi)))
   go_ret
   exact ⟨by first | rfl | (simp [errW_none, errW_some] <;> rfl) | (simp [*, errW_none, errW_some] <;> rfl), blw⟩
 ·replace c10 := Bool.eq_false_iff.mpr c10
  subst c10
  have H1 : (some false) = some r := by rw [if_neg (show ¬ (false = true) by decide)] at H; exact H
  subst hr_; cases H1

end Go.Proofs.Ythpnlldadpcmnaa.PFnExactDivTurn
