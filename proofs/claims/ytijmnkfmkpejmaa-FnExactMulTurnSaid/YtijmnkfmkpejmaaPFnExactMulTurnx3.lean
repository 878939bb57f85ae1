/- The machine's side of a law, function by function: a Lean function with the Go function's answers and the proof that the Go code comes to them. No condition. Written by this session's program over the kit's print, this session's own contracts set in. -/
import Derived.Test.YtijmnkfmkpejmaaPFnExactMulTurnx0
import Derived.Test.YtijmnkfmkpejmaaPFnExactMulTurnx1
import Derived.Test.YtijmnkfmkpejmaaPFnExactMulTurnx2
namespace Go.Proofs.Ytijmnkfmkpejmaa.PFnExactMulTurn
open Go.RowKit Go.Proofs.YtijmnkfmkpejmaaW.PrintWords Go.Proofs.YtijmnkfmkpejmaaW.PrintLast Go.Proofs.YtijmnkfmkpejmaaW.PrintMore
attribute [local go_sem] max2_int min2_int max_two min_two max_three min_three max_four min_four   -- for this text's walks alone
set_option linter.unusedVariables false
set_option linter.unusedSimpArgs false

/-! ### laws_FnExactMulTurn: function 8 -/
def laws_FnExactMulTurn.f (k : Nat) (a0_0 : Nat) (a0_1 : Nat) (a1_0 : Nat) (a1_1 : Nat) : Option (Bool) := (laws_toTurn.f a0_0 a0_1).bind fun bt166 => ((laws_toTurn.f a1_0 a1_1).bind fun bt168 => ((spec_MulTurn.f k bt166.1 bt166.2 bt168.1 bt168.2).bind fun bt170 => ((laws_toTurn.f a0_0 a0_1).bind fun bt174 => ((laws_toTurn.f a1_0 a1_1).bind fun bt176 => ((impl_MulTurn.f k bt174.1 bt174.2 bt176.1 bt176.2).bind fun bt178 => ((laws_eqTurn.f bt178.1 bt178.2.1 bt170.1 bt170.2.1).bind fun t182 => (if t182 = true then (if (bt178.2.2 != bt170.2.2) = true then (some false) else (some true)) else (some false))))))))
theorem laws_FnExactMulTurn.mono : ∀ a0 a1 a2 a3 k, LeO (laws_FnExactMulTurn.f k a0 a1 a2 a3) (laws_FnExactMulTurn.f (k + 1) a0 a1 a2 a3) := by
 intro a0 a1 a2 a3 k
 unfold laws_FnExactMulTurn.f
 repeat' first
   | (with_reducible exact impl_MulTurn.mono _ _ _ _ _)
   | (with_reducible exact spec_MulTurn.mono _ _ _ _ _)
   | (with_reducible exact LeO.refl _)
   | (with_reducible exact LeO.none _)
   | (with_reducible refine LeO.ite ?_ ?_)
   | (with_reducible refine LeO.bind ?_ (fun _ => ?_))
   | exact impl_MulTurn.mono _ _ _ _ _
   | exact spec_MulTurn.mono _ _ _ _ _
   | exact LeO.none _
   | refine LeO.ite ?_ ?_
   | refine LeO.bind ?_ (fun _ => ?_)
def laws_FnExactMulTurn.T1 : Bool × List (List Nat × List Nat) := (true, [([], []), ([0], [0]), ([], []), ([2, 1], [2]), ([1, 3, 3], [1, 3]), ([4], [4]), ([5], [5]), ([5], [5]), ([], []), ([8, 6, 4, 0, 1, 2, 3, 4, 5, 6, 8], [6, 8]), ([7, 9, 0, 1, 2, 3, 4, 5, 6, 7, 8, 9], [7])])
def laws_FnExactMulTurn.B1 : List Nat := [0, 1, 0, 7, 15, 31, 63, 63, 0, 383, 1023]
theorem laws_FnExactMulTurn.tab1 : rtab .any (opsOf Try.f8 1) = laws_FnExactMulTurn.T1 := by kernel_rfl
theorem laws_FnExactMulTurn.bits1 : waitsOk laws_FnExactMulTurn.T1.2 laws_FnExactMulTurn.B1 = true := by kernel_rfl
def laws_FnExactMulTurn.T2 : Bool × List (List Nat × List Nat) := (true, [([], []), ([0], [0]), ([], []), ([2, 1], [2]), ([1, 3, 3], [1, 3]), ([4], [4]), ([5], [5]), ([5], [5]), ([], []), ([8, 6, 4, 0, 1, 2, 3, 4, 5, 6, 8], [6, 8]), ([7, 9, 0, 1, 2, 3, 4, 5, 6, 7, 8, 9], [7])])
def laws_FnExactMulTurn.B2 : List Nat := [0, 1, 0, 7, 15, 31, 63, 63, 0, 383, 1023]
theorem laws_FnExactMulTurn.tab2 : rtab .any (opsOf Try.f8 2) = laws_FnExactMulTurn.T2 := by kernel_rfl
theorem laws_FnExactMulTurn.bits2 : waitsOk laws_FnExactMulTurn.T2.2 laws_FnExactMulTurn.B2 = true := by kernel_rfl
set_option maxHeartbeats 8000000 in
set_option maxRecDepth 100000 in
theorem laws_FnExactMulTurn.calls (k : Nat) (a0_0 : Nat) (a0_1 : Nat) (a1_0 : Nat) (a1_1 : Nat) (r : Bool) (w : World) (hr_ : r = true) (h : laws_FnExactMulTurn.f k a0_0 a0_1 a1_0 a1_1 = some r) :
  Calls Try.prog 8 #[.agg #[.float .f64 a0_0, .float .f64 a0_1], .agg #[.float .f64 a1_0, .float .f64 a1_1]] w fun e w' => e = .returned (.bool r) ∧ Below w.heap.size w w' := by
 have hu35 := Try.underlying35
 have hu36 := Try.underlying36
 have HB := Aside0.mk (Below.refl w.heap.size w)
 have hsf_ : ∀ (w_ : World) (a_ : Addr) (x_ : Nat), Sem.run Try.prog (store a_ (.float .f64 x_)) w_ = stored Try.prog w_ a_ (.float .f64 x_) .plain := fun w_ a_ x_ => run_store Try.prog w_ a_ _ .plain rfl
 have H : ((laws_toTurn.f a0_0 a0_1).bind fun bt166 => ((laws_toTurn.f a1_0 a1_1).bind fun bt168 => ((spec_MulTurn.f k bt166.1 bt166.2 bt168.1 bt168.2).bind fun bt170 => ((laws_toTurn.f a0_0 a0_1).bind fun bt174 => ((laws_toTurn.f a1_0 a1_1).bind fun bt176 => ((impl_MulTurn.f k bt174.1 bt174.2 bt176.1 bt176.2).bind fun bt178 => ((laws_eqTurn.f bt178.1 bt178.2.1 bt170.1 bt170.2.1).bind fun t182 => (if t182 = true then (if (bt178.2.2 != bt170.2.2) = true then (some false) else (some true)) else (some false))))))))) = some r := h
 clear h
 replace H := Option.bind_eq_some_iff.mp H
 obtain ⟨⟨t166, t167⟩, A30, H⟩ := H
 replace H : ((laws_toTurn.f a1_0 a1_1).bind fun bt168 => ((spec_MulTurn.f k t166 t167 bt168.1 bt168.2).bind fun bt170 => ((laws_toTurn.f a0_0 a0_1).bind fun bt174 => ((laws_toTurn.f a1_0 a1_1).bind fun bt176 => ((impl_MulTurn.f k bt174.1 bt174.2 bt176.1 bt176.2).bind fun bt178 => ((laws_eqTurn.f bt178.1 bt178.2.1 bt170.1 bt170.2.1).bind fun t182 => (if t182 = true then (if (bt178.2.2 != bt170.2.2) = true then (some false) else (some true)) else (some false)))))))) = some r := H
 have A3 := Aside0.mk A30
 clear A30
 replace H := Option.bind_eq_some_iff.mp H
 obtain ⟨⟨t168, t169⟩, A40, H⟩ := H
 replace H : ((spec_MulTurn.f k t166 t167 t168 t169).bind fun bt170 => ((laws_toTurn.f a0_0 a0_1).bind fun bt174 => ((laws_toTurn.f a1_0 a1_1).bind fun bt176 => ((impl_MulTurn.f k bt174.1 bt174.2 bt176.1 bt176.2).bind fun bt178 => ((laws_eqTurn.f bt178.1 bt178.2.1 bt170.1 bt170.2.1).bind fun t182 => (if t182 = true then (if (bt178.2.2 != bt170.2.2) = true then (some false) else (some true)) else (some false))))))) = some r := H
 have A4 := Aside0.mk A40
 clear A40
 replace H := Option.bind_eq_some_iff.mp H
 obtain ⟨⟨t170, t171, t172⟩, A50, H⟩ := H
 replace H : ((laws_toTurn.f a0_0 a0_1).bind fun bt174 => ((laws_toTurn.f a1_0 a1_1).bind fun bt176 => ((impl_MulTurn.f k bt174.1 bt174.2 bt176.1 bt176.2).bind fun bt178 => ((laws_eqTurn.f bt178.1 bt178.2.1 t170 t171).bind fun t182 => (if t182 = true then (if (bt178.2.2 != t172) = true then (some false) else (some true)) else (some false)))))) = some r := H
 have A5 := Aside0.mk A50
 clear A50
 replace H := Option.bind_eq_some_iff.mp H
 obtain ⟨⟨t174, t175⟩, A60, H⟩ := H
 replace H : ((laws_toTurn.f a1_0 a1_1).bind fun bt176 => ((impl_MulTurn.f k t174 t175 bt176.1 bt176.2).bind fun bt178 => ((laws_eqTurn.f bt178.1 bt178.2.1 t170 t171).bind fun t182 => (if t182 = true then (if (bt178.2.2 != t172) = true then (some false) else (some true)) else (some false))))) = some r := H
 have A6 := Aside0.mk A60
 clear A60
 replace H := Option.bind_eq_some_iff.mp H
 obtain ⟨⟨t176, t177⟩, A70, H⟩ := H
 replace H : ((impl_MulTurn.f k t174 t175 t176 t177).bind fun bt178 => ((laws_eqTurn.f bt178.1 bt178.2.1 t170 t171).bind fun t182 => (if t182 = true then (if (bt178.2.2 != t172) = true then (some false) else (some true)) else (some false)))) = some r := H
 have A7 := Aside0.mk A70
 clear A70
 replace H := Option.bind_eq_some_iff.mp H
 obtain ⟨⟨t178, t179, t180⟩, A80, H⟩ := H
 replace H : ((laws_eqTurn.f t178 t179 t170 t171).bind fun t182 => (if t182 = true then (if (t180 != t172) = true then (some false) else (some true)) else (some false))) = some r := H
 have A8 := Aside0.mk A80
 clear A80
 replace H := Option.bind_eq_some_iff.mp H
 obtain ⟨t182, A90, H⟩ := H
 replace H : (if t182 = true then (if (t180 != t172) = true then (some false) else (some true)) else (some false)) = some r := H
 have A9 := Aside0.mk A90
 clear A90
 by_cases c10 : t182 = true
 ·subst c10
  have H1 : (if (t180 != t172) = true then (some false) else (some true)) = some r := by rw [if_pos rfl] at H; exact H
  clear H
  have H := H1
  clear H1
  by_cases c11 : (t180 != t172) = true
  ·rw [if_pos c11] at H
   subst hr_; cases H
  ·rw [if_neg c11] at H
   have c11b0 : (t180 != t172) = false := by simpa using c11
   (try (have c11b1 : decide (t180 = t172) = true := by simpa using c11))
   (try (have c11b2 : (t180 == t172) = true := by simpa using c11))
   clear c11
   obtain rfl := Option.some.inj H
   go_enter Try.func8, Try.ntmps8
   try go_wp2_with (first | ((with_reducible refine gate_dst (N := 2) rfl ?_); refine box_event ?hg (N := 2) ?hd (cs := #[.float .f64 a0_0, .float .f64 a0_1]) (t := 35) ?hr ?_; (case hd => rfl); (case hg => rfl); (case hr => first | (go_simp; done) | (go_simp; rfl)); intro gb164 hg w39 hbox hb; have n0_ := Aside0.mk (below_step blw hb); have n1_ := Aside0.mk (hbox); have n2_ := Aside0.mk ((by rw [hg]; exact (below_size blw) : w.heap.size ≤ gb164)); have n3_ := Aside0.mk ((by rw [hg]; exact (below_size blw) : w.heap.size ≤ gb164)); clear HB; have HB := n0_; have BK164 := n1_; have GW164 := n2_; have GE164 := n3_; clear n0_ n1_ n2_ n3_; clear hb hbox hg) | ((with_reducible refine gate_dst (N := 3) rfl ?_); refine box_event ?hg (N := 3) ?hd (cs := #[.float .f64 a1_0, .float .f64 a1_1]) (t := 35) ?hr ?_; (case hd => rfl); (case hg => rfl); (case hr => first | (go_simp; done) | (go_simp; rfl)); intro gb165 hg w40 hbox hb; have n0_ := Aside0.mk (blk_below (g := gb164) (o := .cells #[.float .f64 a0_0, .float .f64 a0_1] 35 (0, 0)) bkw hb); have n1_ := Aside0.mk (below_step blw hb); have n2_ := Aside0.mk (hbox); have n3_ := Aside0.mk ((by rw [hg]; exact (below_size blw) : w.heap.size ≤ gb165)); have n4_ := Aside0.mk ((by rw [hg]; exact (below_size blw) : w.heap.size ≤ gb165)); have n5_ := Aside0.mk ((by rw [hg]; exact Nat.ne_of_lt (blk_lt (g := gb164) (o := .cells #[.float .f64 a0_0, .float .f64 a0_1] 35 (0, 0)) bkw) : gb164 ≠ gb165)); have n6_ := Aside0.mk ((by rw [hg]; exact Nat.ne_of_gt (blk_lt (g := gb164) (o := .cells #[.float .f64 a0_0, .float .f64 a0_1] 35 (0, 0)) bkw) : gb165 ≠ gb164)); clear BK164; clear HB; have BK164 := n0_; have HB := n1_; have BK165 := n2_; have GW165 := n3_; have GE165 := n4_; have NB164_165 := n5_; have NB165_164 := n6_; clear n0_ n1_ n2_ n3_ n4_ n5_ n6_; clear hb hbox hg))
   have n0_ := Aside0.mk (blk_drew BK164.out)
   have n1_ := Aside0.mk (blk_drew BK165.out)
   have n2_ := Aside0.mk (below_drew1 HB.out)
   clear BK164
   clear BK165
   clear HB
   have BK164 := n0_
   have BK165 := n1_
   have HB := n2_
   clear n0_ n1_ n2_
   refine start_ (n := 11) (S := fun w' => w'.cell? ⟨gb164, 0, none⟩ = some (.float .f64 a0_0) ∧ w'.cell? ⟨gb164, 1, none⟩ = some (.float .f64 a0_1) ∧ w'.cell? ⟨gb165, 0, none⟩ = some (.float .f64 a1_0) ∧ w'.cell? ⟨gb165, 1, none⟩ = some (.float .f64 a1_1)) (ds := []) #[false, false, false, false, false, false, false, false, false, false, false] (by kernel_rfl) rfl rfl ⟨(blk_cell BK164.out 0).trans rfl, (blk_cell BK164.out 1).trans rfl, (blk_cell BK165.out 0).trans rfl, (blk_cell BK165.out 1).trans rfl⟩ (fun hHeld => ?_); refine with_tabW laws_FnExactMulTurn.tab1 laws_FnExactMulTurn.bits1 (fun HT_ HW_ => ?_)
   generalize w40.drew = w41 at BK164 BK165 HB hHeld ⊢
   refine take_ (i := 0) (N := some 10) (v := ?_) (a' := ?_) #[true, false, false, false, false, false, false, false, false, false, false] rfl rfl (take_ofW HT_.out HW_.out (by kernel_rfl)) (fun _ _ _ h => h) (Or.inl ⟨by rfl, ?_⟩) hHeld ?_ ?_
   rotate_left
   ·rintro w' ⟨s0, s1, s2, s3⟩
    go_simp
    with_reducible rfl
   rotate_left
   ·simp only [Act.put, sp1, sp2, sp3, i64_w, i32_w]
    rfl
   refine take_ (i := 2) (N := some 12) (v := ?_) (a' := ?_) #[true, false, true, false, false, false, false, false, false, false, false] rfl rfl (take_ofW HT_.out HW_.out (by kernel_rfl)) (fun _ _ _ h => h) (Or.inl ⟨by rfl, ?_⟩) hHeld ?_ ?_
   rotate_left
   ·rintro w' ⟨s0, s1, s2, s3⟩
    go_simp
    with_reducible rfl
   rotate_left
   ·simp only [Act.put, sp1, sp2, sp3, i64_w, i32_w]
    rfl
   refine join_ (σ := Nat) 2 #[true, true, true, true, true, true, true, true, true, false, false] (fun s_ => [(11, .agg #[.float .f64 t166, .float .f64 t167]), (13, .agg #[.float .f64 t168, .float .f64 t169]), (14, .tuple #[.agg #[.float .f64 t170, .float .f64 t171], .bool t172]), (5, .pointer (some ⟨s_, 0, none⟩)), (9, .tuple #[.agg #[.float .f64 t170, .float .f64 t171], .bool t172]), (15, .agg #[.float .f64 t170, .float .f64 t171]), (16, .bool t172)]) (fun s_ w' => (w'.cell? ⟨gb164, 0, none⟩ = some (.float .f64 a0_0) ∧ w'.cell? ⟨gb164, 1, none⟩ = some (.float .f64 a0_1) ∧ w'.cell? ⟨gb165, 0, none⟩ = some (.float .f64 a1_0) ∧ w'.cell? ⟨gb165, 1, none⟩ = some (.float .f64 a1_1)) ∧ (w'.heap[gb164]? = some (.cells #[.float .f64 a0_0, .float .f64 a0_1] 35 (0, 0))) ∧ (w'.heap[gb165]? = some (.cells #[.float .f64 a1_0, .float .f64 a1_1] 35 (0, 0))) ∧ (w'.heap[s_]? = some (.cells #[.float .f64 0, .float .f64 0] 36 (0, 0))) ∧ (w.heap.size ≤ s_) ∧ (w.heap.size ≤ s_) ∧ (gb164 ≠ s_) ∧ (s_ ≠ gb164) ∧ (gb165 ≠ s_) ∧ (s_ ≠ gb165) ∧ (Below w.heap.size w w')) ?_ ?_
   rotate_left
   ·intro hCont
    refine two_ (i := 1) (j := 8) (Ni := some 11) (Nj := some 5) #[true, true, true, false, false, false, false, false, false, false, false] #[true, false, true, false, false, false, false, false, true, false, false] rfl rfl rfl rfl (two_of HT_.out (by kernel_rfl)) (by decide) (by decide) (fun K hK => ?_) (fun K hK => ?_)
    ·skip
     refine goes_ Try.func24 (by kernel_rfl) rfl #[.agg #[.float .f64 a0_0, .float .f64 a0_1]] (by rfl) rfl rfl (by (try simp only [List.map_toArray, List.map_cons, List.map_nil]); first | done | rfl | (simp only [List.length_drop, List.length_take]; rfl)) ?_
     with_reducible refine (laws_toTurn.calls a0_0 a0_1 t166 t167 _ A3.out).mono ?_
     rintro e w42 ⟨rfl, hb⟩
     refine ⟨_, rfl, ?_⟩
     have n0_ := Aside0.mk (blk_below (g := gb164) (o := .cells #[.float .f64 a0_0, .float .f64 a0_1] 35 (0, 0)) bkw hb)
     have n1_ := Aside0.mk (blk_below (g := gb165) (o := .cells #[.float .f64 a1_0, .float .f64 a1_1] 35 (0, 0)) bkw hb)
     have n2_ := Aside0.mk (below_step blw hb)
     clear BK164
     clear BK165
     clear HB
     have BK164 := n0_
     have BK165 := n1_
     have HB := n2_
     clear n0_ n1_ n2_
     (try clear hb)
     (try clear hb2)
     (try clear hk)
     (try clear hi)
     refine hK.out _ _ ⟨(blk_cell BK164.out 0).trans rfl, (blk_cell BK164.out 1).trans rfl, (blk_cell BK165.out 0).trans rfl, (blk_cell BK165.out 1).trans rfl⟩ (fun hHeld => ?_)
     clear hK K
     refine norm_ (a' := ?_) ?_ ?_
     rotate_left
     ·show Act.put _ (some 11) _ = _
      simp only [Act.put, sp1, sp2, sp3, i64_w, i32_w]
      rfl
     refine two_ (i := 3) (j := 8) (Ni := some 13) (Nj := some 5) #[true, true, true, true, false, false, false, false, false, false, false] #[true, true, true, false, false, false, false, false, true, false, false] rfl rfl rfl rfl (two_of HT_.out (by kernel_rfl)) (by decide) (by decide) (fun K hK => ?_) (fun K hK => ?_)
     ·skip
      refine goes_ Try.func24 (by kernel_rfl) rfl #[.agg #[.float .f64 a1_0, .float .f64 a1_1]] (by rfl) rfl rfl (by (try simp only [List.map_toArray, List.map_cons, List.map_nil]); first | done | rfl | (simp only [List.length_drop, List.length_take]; rfl)) ?_
      with_reducible refine (laws_toTurn.calls a1_0 a1_1 t168 t169 _ A4.out).mono ?_
      rintro e w43 ⟨rfl, hb⟩
      refine ⟨_, rfl, ?_⟩
      have n0_ := Aside0.mk (blk_below (g := gb164) (o := .cells #[.float .f64 a0_0, .float .f64 a0_1] 35 (0, 0)) bkw hb)
      have n1_ := Aside0.mk (blk_below (g := gb165) (o := .cells #[.float .f64 a1_0, .float .f64 a1_1] 35 (0, 0)) bkw hb)
      have n2_ := Aside0.mk (below_step blw hb)
      clear BK164
      clear BK165
      clear HB
      have BK164 := n0_
      have BK165 := n1_
      have HB := n2_
      clear n0_ n1_ n2_
      (try clear hb)
      (try clear hb2)
      (try clear hk)
      (try clear hi)
      refine hK.out _ _ ⟨(blk_cell BK164.out 0).trans rfl, (blk_cell BK164.out 1).trans rfl, (blk_cell BK165.out 0).trans rfl, (blk_cell BK165.out 1).trans rfl⟩ (fun hHeld => ?_)
      clear hK K
      refine norm_ (a' := ?_) ?_ ?_
      rotate_left
      ·show Act.put _ (some 13) _ = _
       simp only [Act.put, sp1, sp2, sp3, i64_w, i32_w]
       rfl
      refine two_ (i := 4) (j := 8) (Ni := some 14) (Nj := some 5) #[true, true, true, true, true, false, false, false, false, false, false] #[true, true, true, true, false, false, false, false, true, false, false] rfl rfl rfl rfl (two_of HT_.out (by kernel_rfl)) (by decide) (by decide) (fun K hK => ?_) (fun K hK => ?_)
      ·skip
       refine goes_ Try.func23 (by kernel_rfl) rfl #[.agg #[.float .f64 t166, .float .f64 t167], .agg #[.float .f64 t168, .float .f64 t169]] (by rfl) rfl rfl (by (try simp only [List.map_toArray, List.map_cons, List.map_nil]); first | done | rfl | (simp only [List.length_drop, List.length_take]; rfl)) ?_
       with_reducible refine (spec_MulTurn.calls k t166 t167 t168 t169 t170 t171 t172 _ A5.out).mono ?_
       rintro e w44 ⟨rfl, hb⟩
       refine ⟨_, rfl, ?_⟩
       have n0_ := Aside0.mk (blk_below (g := gb164) (o := .cells #[.float .f64 a0_0, .float .f64 a0_1] 35 (0, 0)) bkw hb)
       have n1_ := Aside0.mk (blk_below (g := gb165) (o := .cells #[.float .f64 a1_0, .float .f64 a1_1] 35 (0, 0)) bkw hb)
       have n2_ := Aside0.mk (below_step blw hb)
       clear BK164
       clear BK165
       clear HB
       have BK164 := n0_
       have BK165 := n1_
       have HB := n2_
       clear n0_ n1_ n2_
       (try clear hb)
       (try clear hb2)
       (try clear hk)
       (try clear hi)
       refine hK.out _ _ ⟨(blk_cell BK164.out 0).trans rfl, (blk_cell BK164.out 1).trans rfl, (blk_cell BK165.out 0).trans rfl, (blk_cell BK165.out 1).trans rfl⟩ (fun hHeld => ?_)
       clear hK K
       refine norm_ (a' := ?_) ?_ ?_
       rotate_left
       ·show Act.put _ (some 14) _ = _
        simp only [Act.put, sp1, sp2, sp3, i64_w, i32_w]
        rfl
       refine pure_ (i := 5) (N := some 9) (v := ?_) (a' := ?_) #[true, true, true, true, true, true, false, false, false, false, false] rfl rfl (any_of HT_.out (by kernel_rfl)) (fun _ _ _ h => h) (Or.inl ⟨by rfl, ?_⟩) ?_ ?_
       rotate_left
       ·intro w'
        go_simp
        with_reducible rfl
       rotate_left
       ·simp only [Act.put, sp1, sp2, sp3, i64_w, i32_w]
        rfl
       refine pure_ (i := 6) (N := some 15) (v := ?_) (a' := ?_) #[true, true, true, true, true, true, true, false, false, false, false] rfl rfl (any_of HT_.out (by kernel_rfl)) (fun _ _ _ h => h) (Or.inl ⟨by rfl, ?_⟩) ?_ ?_
       rotate_left
       ·intro w'
        go_simp
        with_reducible rfl
       rotate_left
       ·simp only [Act.put, sp1, sp2, sp3, i64_w, i32_w]
        rfl
       refine pure_ (i := 7) (N := some 16) (v := ?_) (a' := ?_) #[true, true, true, true, true, true, true, true, false, false, false] rfl rfl (any_of HT_.out (by kernel_rfl)) (fun _ _ _ h => h) (Or.inl ⟨by rfl, ?_⟩) ?_ ?_
       rotate_left
       ·intro w'
        go_simp
        with_reducible rfl
       rotate_left
       ·simp only [Act.put, sp1, sp2, sp3, i64_w, i32_w]
        rfl
       refine one_ (i := 8) (N := some 5) #[true, true, true, true, true, true, true, true, true, false, false] rfl rfl (one_of HT_.out (by kernel_rfl)) (by decide) (fun K hK => ?_)
       refine box_step ?hg (N := 5) ?hd (cs := #[.float .f64 0, .float .f64 0]) (t := 36) ?hr ?_; (case hd => rfl); (case hg => rfl); (case hr => first | (go_simp; done) | (go_simp; rfl))
       intro gb173 hg w45 hbox hb
       have n0_ := Aside0.mk (blk_below (g := gb164) (o := .cells #[.float .f64 a0_0, .float .f64 a0_1] 35 (0, 0)) bkw hb)
       have n1_ := Aside0.mk (blk_below (g := gb165) (o := .cells #[.float .f64 a1_0, .float .f64 a1_1] 35 (0, 0)) bkw hb)
       have n2_ := Aside0.mk (below_step blw hb)
       have n3_ := Aside0.mk (hbox)
       have n4_ := Aside0.mk ((by rw [hg]; exact (below_size blw) : w.heap.size ≤ gb173))
       have n5_ := Aside0.mk ((by rw [hg]; exact (below_size blw) : w.heap.size ≤ gb173))
       have n6_ := Aside0.mk ((by rw [hg]; exact Nat.ne_of_lt (blk_lt (g := gb164) (o := .cells #[.float .f64 a0_0, .float .f64 a0_1] 35 (0, 0)) bkw) : gb164 ≠ gb173))
       have n7_ := Aside0.mk ((by rw [hg]; exact Nat.ne_of_gt (blk_lt (g := gb164) (o := .cells #[.float .f64 a0_0, .float .f64 a0_1] 35 (0, 0)) bkw) : gb173 ≠ gb164))
       have n8_ := Aside0.mk ((by rw [hg]; exact Nat.ne_of_lt (blk_lt (g := gb165) (o := .cells #[.float .f64 a1_0, .float .f64 a1_1] 35 (0, 0)) bkw) : gb165 ≠ gb173))
       have n9_ := Aside0.mk ((by rw [hg]; exact Nat.ne_of_gt (blk_lt (g := gb165) (o := .cells #[.float .f64 a1_0, .float .f64 a1_1] 35 (0, 0)) bkw) : gb173 ≠ gb165))
       clear BK164
       clear BK165
       clear HB
       have BK164 := n0_
       have BK165 := n1_
       have HB := n2_
       have BK173 := n3_
       have GW173 := n4_
       have GE173 := n5_
       have NB164_173 := n6_
       have NB173_164 := n7_
       have NB165_173 := n8_
       have NB173_165 := n9_
       clear n0_ n1_ n2_ n3_ n4_ n5_ n6_ n7_ n8_ n9_
       clear hb hbox hg
       refine hK.out _ _ ⟨(blk_cell BK164.out 0).trans rfl, (blk_cell BK164.out 1).trans rfl, (blk_cell BK165.out 0).trans rfl, (blk_cell BK165.out 1).trans rfl⟩ (fun hHeld => ?_)
       clear hK K
       refine norm_ (a' := ?_) ?_ ?_
       rotate_left
       ·show Act.put _ (some 5) _ = _
        simp only [Act.put, sp1, sp2, sp3, i64_w, i32_w]
        rfl
       exact norm_ (by simp only [putAll, Act.put, List.setIfInBounds_toArray, List.set_cons_zero, List.set_cons_succ]) (hCont (gb173) _ ⟨hHeld, bkw, bkw, bkw, GW173.out, GE173.out, NB164_173.out, NB173_164.out, NB165_173.out, NB173_165.out, blw⟩)
      ·skip
       refine box_step ?hg (N := 5) ?hd (cs := #[.float .f64 0, .float .f64 0]) (t := 36) ?hr ?_; (case hd => rfl); (case hg => rfl); (case hr => first | (go_simp; done) | (go_simp; rfl))
       intro gb173 hg w44 hbox hb
       have n0_ := Aside0.mk (blk_below (g := gb164) (o := .cells #[.float .f64 a0_0, .float .f64 a0_1] 35 (0, 0)) bkw hb)
       have n1_ := Aside0.mk (blk_below (g := gb165) (o := .cells #[.float .f64 a1_0, .float .f64 a1_1] 35 (0, 0)) bkw hb)
       have n2_ := Aside0.mk (below_step blw hb)
       have n3_ := Aside0.mk (hbox)
       have n4_ := Aside0.mk ((by rw [hg]; exact (below_size blw) : w.heap.size ≤ gb173))
       have n5_ := Aside0.mk ((by rw [hg]; exact (below_size blw) : w.heap.size ≤ gb173))
       have n6_ := Aside0.mk ((by rw [hg]; exact Nat.ne_of_lt (blk_lt (g := gb164) (o := .cells #[.float .f64 a0_0, .float .f64 a0_1] 35 (0, 0)) bkw) : gb164 ≠ gb173))
       have n7_ := Aside0.mk ((by rw [hg]; exact Nat.ne_of_gt (blk_lt (g := gb164) (o := .cells #[.float .f64 a0_0, .float .f64 a0_1] 35 (0, 0)) bkw) : gb173 ≠ gb164))
       have n8_ := Aside0.mk ((by rw [hg]; exact Nat.ne_of_lt (blk_lt (g := gb165) (o := .cells #[.float .f64 a1_0, .float .f64 a1_1] 35 (0, 0)) bkw) : gb165 ≠ gb173))
       have n9_ := Aside0.mk ((by rw [hg]; exact Nat.ne_of_gt (blk_lt (g := gb165) (o := .cells #[.float .f64 a1_0, .float .f64 a1_1] 35 (0, 0)) bkw) : gb173 ≠ gb165))
       clear BK164
       clear BK165
       clear HB
       have BK164 := n0_
       have BK165 := n1_
       have HB := n2_
       have BK173 := n3_
       have GW173 := n4_
       have GE173 := n5_
       have NB164_173 := n6_
       have NB173_164 := n7_
       have NB165_173 := n8_
       have NB173_165 := n9_
       clear n0_ n1_ n2_ n3_ n4_ n5_ n6_ n7_ n8_ n9_
       clear hb hbox hg
       refine hK.out _ _ ⟨(blk_cell BK164.out 0).trans rfl, (blk_cell BK164.out 1).trans rfl, (blk_cell BK165.out 0).trans rfl, (blk_cell BK165.out 1).trans rfl⟩ (fun hHeld => ?_)
       clear hK K
       refine norm_ (a' := ?_) ?_ ?_
       rotate_left
       ·show Act.put _ (some 5) _ = _
        simp only [Act.put, sp1, sp2, sp3, i64_w, i32_w]
        rfl
       refine one_ (i := 4) (N := some 14) #[true, true, true, true, true, false, false, false, true, false, false] rfl rfl (one_of HT_.out (by kernel_rfl)) (by decide) (fun K hK => ?_)
       refine goes_ Try.func23 (by kernel_rfl) rfl #[.agg #[.float .f64 t166, .float .f64 t167], .agg #[.float .f64 t168, .float .f64 t169]] (by rfl) rfl rfl (by (try simp only [List.map_toArray, List.map_cons, List.map_nil]); first | done | rfl | (simp only [List.length_drop, List.length_take]; rfl)) ?_
       with_reducible refine (spec_MulTurn.calls k t166 t167 t168 t169 t170 t171 t172 _ A5.out).mono ?_
       rintro e w45 ⟨rfl, hb⟩
       refine ⟨_, rfl, ?_⟩
       have n0_ := Aside0.mk (blk_below (g := gb164) (o := .cells #[.float .f64 a0_0, .float .f64 a0_1] 35 (0, 0)) bkw hb)
       have n1_ := Aside0.mk (blk_below (g := gb165) (o := .cells #[.float .f64 a1_0, .float .f64 a1_1] 35 (0, 0)) bkw hb)
       have n2_ := Aside0.mk (blk_below (g := gb173) (o := .cells #[.float .f64 0, .float .f64 0] 36 (0, 0)) bkw hb)
       have n3_ := Aside0.mk (below_step blw hb)
       clear BK164
       clear BK165
       clear BK173
       clear HB
       have BK164 := n0_
       have BK165 := n1_
       have BK173 := n2_
       have HB := n3_
       clear n0_ n1_ n2_ n3_
       (try clear hb)
       (try clear hb2)
       (try clear hk)
       (try clear hi)
       refine hK.out _ _ ⟨(blk_cell BK164.out 0).trans rfl, (blk_cell BK164.out 1).trans rfl, (blk_cell BK165.out 0).trans rfl, (blk_cell BK165.out 1).trans rfl⟩ (fun hHeld => ?_)
       clear hK K
       refine norm_ (a' := ?_) ?_ ?_
       rotate_left
       ·show Act.put _ (some 14) _ = _
        simp only [Act.put, sp1, sp2, sp3, i64_w, i32_w]
        rfl
       refine pure_ (i := 5) (N := some 9) (v := ?_) (a' := ?_) #[true, true, true, true, true, true, false, false, true, false, false] rfl rfl (any_of HT_.out (by kernel_rfl)) (fun _ _ _ h => h) (Or.inl ⟨by rfl, ?_⟩) ?_ ?_
       rotate_left
       ·intro w'
        go_simp
        with_reducible rfl
       rotate_left
       ·simp only [Act.put, sp1, sp2, sp3, i64_w, i32_w]
        rfl
       refine pure_ (i := 6) (N := some 15) (v := ?_) (a' := ?_) #[true, true, true, true, true, true, true, false, true, false, false] rfl rfl (any_of HT_.out (by kernel_rfl)) (fun _ _ _ h => h) (Or.inl ⟨by rfl, ?_⟩) ?_ ?_
       rotate_left
       ·intro w'
        go_simp
        with_reducible rfl
       rotate_left
       ·simp only [Act.put, sp1, sp2, sp3, i64_w, i32_w]
        rfl
       refine pure_ (i := 7) (N := some 16) (v := ?_) (a' := ?_) #[true, true, true, true, true, true, true, true, true, false, false] rfl rfl (any_of HT_.out (by kernel_rfl)) (fun _ _ _ h => h) (Or.inl ⟨by rfl, ?_⟩) ?_ ?_
       rotate_left
       ·intro w'
        go_simp
        with_reducible rfl
       rotate_left
       ·simp only [Act.put, sp1, sp2, sp3, i64_w, i32_w]
        rfl
       exact norm_ (by simp only [putAll, Act.put, List.setIfInBounds_toArray, List.set_cons_zero, List.set_cons_succ]) (hCont (gb173) _ ⟨hHeld, bkw, bkw, bkw, GW173.out, GE173.out, NB164_173.out, NB173_164.out, NB165_173.out, NB173_165.out, blw⟩)
     ·skip
      refine box_step ?hg (N := 5) ?hd (cs := #[.float .f64 0, .float .f64 0]) (t := 36) ?hr ?_; (case hd => rfl); (case hg => rfl); (case hr => first | (go_simp; done) | (go_simp; rfl))
      intro gb173 hg w43 hbox hb
      have n0_ := Aside0.mk (blk_below (g := gb164) (o := .cells #[.float .f64 a0_0, .float .f64 a0_1] 35 (0, 0)) bkw hb)
      have n1_ := Aside0.mk (blk_below (g := gb165) (o := .cells #[.float .f64 a1_0, .float .f64 a1_1] 35 (0, 0)) bkw hb)
      have n2_ := Aside0.mk (below_step blw hb)
      have n3_ := Aside0.mk (hbox)
      have n4_ := Aside0.mk ((by rw [hg]; exact (below_size blw) : w.heap.size ≤ gb173))
      have n5_ := Aside0.mk ((by rw [hg]; exact (below_size blw) : w.heap.size ≤ gb173))
      have n6_ := Aside0.mk ((by rw [hg]; exact Nat.ne_of_lt (blk_lt (g := gb164) (o := .cells #[.float .f64 a0_0, .float .f64 a0_1] 35 (0, 0)) bkw) : gb164 ≠ gb173))
      have n7_ := Aside0.mk ((by rw [hg]; exact Nat.ne_of_gt (blk_lt (g := gb164) (o := .cells #[.float .f64 a0_0, .float .f64 a0_1] 35 (0, 0)) bkw) : gb173 ≠ gb164))
      have n8_ := Aside0.mk ((by rw [hg]; exact Nat.ne_of_lt (blk_lt (g := gb165) (o := .cells #[.float .f64 a1_0, .float .f64 a1_1] 35 (0, 0)) bkw) : gb165 ≠ gb173))
      have n9_ := Aside0.mk ((by rw [hg]; exact Nat.ne_of_gt (blk_lt (g := gb165) (o := .cells #[.float .f64 a1_0, .float .f64 a1_1] 35 (0, 0)) bkw) : gb173 ≠ gb165))
      clear BK164
      clear BK165
      clear HB
      have BK164 := n0_
      have BK165 := n1_
      have HB := n2_
      have BK173 := n3_
      have GW173 := n4_
      have GE173 := n5_
      have NB164_173 := n6_
      have NB173_164 := n7_
      have NB165_173 := n8_
      have NB173_165 := n9_
      clear n0_ n1_ n2_ n3_ n4_ n5_ n6_ n7_ n8_ n9_
      clear hb hbox hg
      refine hK.out _ _ ⟨(blk_cell BK164.out 0).trans rfl, (blk_cell BK164.out 1).trans rfl, (blk_cell BK165.out 0).trans rfl, (blk_cell BK165.out 1).trans rfl⟩ (fun hHeld => ?_)
      clear hK K
      refine norm_ (a' := ?_) ?_ ?_
      rotate_left
      ·show Act.put _ (some 5) _ = _
       simp only [Act.put, sp1, sp2, sp3, i64_w, i32_w]
       rfl
      refine one_ (i := 3) (N := some 13) #[true, true, true, true, false, false, false, false, true, false, false] rfl rfl (one_of HT_.out (by kernel_rfl)) (by decide) (fun K hK => ?_)
      refine goes_ Try.func24 (by kernel_rfl) rfl #[.agg #[.float .f64 a1_0, .float .f64 a1_1]] (by rfl) rfl rfl (by (try simp only [List.map_toArray, List.map_cons, List.map_nil]); first | done | rfl | (simp only [List.length_drop, List.length_take]; rfl)) ?_
      with_reducible refine (laws_toTurn.calls a1_0 a1_1 t168 t169 _ A4.out).mono ?_
      rintro e w44 ⟨rfl, hb⟩
      refine ⟨_, rfl, ?_⟩
      have n0_ := Aside0.mk (blk_below (g := gb164) (o := .cells #[.float .f64 a0_0, .float .f64 a0_1] 35 (0, 0)) bkw hb)
      have n1_ := Aside0.mk (blk_below (g := gb165) (o := .cells #[.float .f64 a1_0, .float .f64 a1_1] 35 (0, 0)) bkw hb)
      have n2_ := Aside0.mk (blk_below (g := gb173) (o := .cells #[.float .f64 0, .float .f64 0] 36 (0, 0)) bkw hb)
      have n3_ := Aside0.mk (below_step blw hb)
      clear BK164
      clear BK165
      clear BK173
      clear HB
      have BK164 := n0_
      have BK165 := n1_
      have BK173 := n2_
      have HB := n3_
      clear n0_ n1_ n2_ n3_
      (try clear hb)
      (try clear hb2)
      (try clear hk)
      (try clear hi)
      refine hK.out _ _ ⟨(blk_cell BK164.out 0).trans rfl, (blk_cell BK164.out 1).trans rfl, (blk_cell BK165.out 0).trans rfl, (blk_cell BK165.out 1).trans rfl⟩ (fun hHeld => ?_)
      clear hK K
      refine norm_ (a' := ?_) ?_ ?_
      rotate_left
      ·show Act.put _ (some 13) _ = _
       simp only [Act.put, sp1, sp2, sp3, i64_w, i32_w]
       rfl
      refine one_ (i := 4) (N := some 14) #[true, true, true, true, true, false, false, false, true, false, false] rfl rfl (one_of HT_.out (by kernel_rfl)) (by decide) (fun K hK => ?_)
      refine goes_ Try.func23 (by kernel_rfl) rfl #[.agg #[.float .f64 t166, .float .f64 t167], .agg #[.float .f64 t168, .float .f64 t169]] (by rfl) rfl rfl (by (try simp only [List.map_toArray, List.map_cons, List.map_nil]); first | done | rfl | (simp only [List.length_drop, List.length_take]; rfl)) ?_
      with_reducible refine (spec_MulTurn.calls k t166 t167 t168 t169 t170 t171 t172 _ A5.out).mono ?_
      rintro e w45 ⟨rfl, hb⟩
      refine ⟨_, rfl, ?_⟩
      have n0_ := Aside0.mk (blk_below (g := gb164) (o := .cells #[.float .f64 a0_0, .float .f64 a0_1] 35 (0, 0)) bkw hb)
      have n1_ := Aside0.mk (blk_below (g := gb165) (o := .cells #[.float .f64 a1_0, .float .f64 a1_1] 35 (0, 0)) bkw hb)
      have n2_ := Aside0.mk (blk_below (g := gb173) (o := .cells #[.float .f64 0, .float .f64 0] 36 (0, 0)) bkw hb)
      have n3_ := Aside0.mk (below_step blw hb)
      clear BK164
      clear BK165
      clear BK173
      clear HB
      have BK164 := n0_
      have BK165 := n1_
      have BK173 := n2_
      have HB := n3_
      clear n0_ n1_ n2_ n3_
      (try clear hb)
      (try clear hb2)
      (try clear hk)
      (try clear hi)
      refine hK.out _ _ ⟨(blk_cell BK164.out 0).trans rfl, (blk_cell BK164.out 1).trans rfl, (blk_cell BK165.out 0).trans rfl, (blk_cell BK165.out 1).trans rfl⟩ (fun hHeld => ?_)
      clear hK K
      refine norm_ (a' := ?_) ?_ ?_
      rotate_left
      ·show Act.put _ (some 14) _ = _
       simp only [Act.put, sp1, sp2, sp3, i64_w, i32_w]
       rfl
      refine pure_ (i := 5) (N := some 9) (v := ?_) (a' := ?_) #[true, true, true, true, true, true, false, false, true, false, false] rfl rfl (any_of HT_.out (by kernel_rfl)) (fun _ _ _ h => h) (Or.inl ⟨by rfl, ?_⟩) ?_ ?_
      rotate_left
      ·intro w'
       go_simp
       with_reducible rfl
      rotate_left
      ·simp only [Act.put, sp1, sp2, sp3, i64_w, i32_w]
       rfl
      refine pure_ (i := 6) (N := some 15) (v := ?_) (a' := ?_) #[true, true, true, true, true, true, true, false, true, false, false] rfl rfl (any_of HT_.out (by kernel_rfl)) (fun _ _ _ h => h) (Or.inl ⟨by rfl, ?_⟩) ?_ ?_
      rotate_left
      ·intro w'
       go_simp
       with_reducible rfl
      rotate_left
      ·simp only [Act.put, sp1, sp2, sp3, i64_w, i32_w]
       rfl
      refine pure_ (i := 7) (N := some 16) (v := ?_) (a' := ?_) #[true, true, true, true, true, true, true, true, true, false, false] rfl rfl (any_of HT_.out (by kernel_rfl)) (fun _ _ _ h => h) (Or.inl ⟨by rfl, ?_⟩) ?_ ?_
      rotate_left
      ·intro w'
       go_simp
       with_reducible rfl
      rotate_left
      ·simp only [Act.put, sp1, sp2, sp3, i64_w, i32_w]
       rfl
      exact norm_ (by simp only [putAll, Act.put, List.setIfInBounds_toArray, List.set_cons_zero, List.set_cons_succ]) (hCont (gb173) _ ⟨hHeld, bkw, bkw, bkw, GW173.out, GE173.out, NB164_173.out, NB173_164.out, NB165_173.out, NB173_165.out, blw⟩)
    ·skip
     refine box_step ?hg (N := 5) ?hd (cs := #[.float .f64 0, .float .f64 0]) (t := 36) ?hr ?_; (case hd => rfl); (case hg => rfl); (case hr => first | (go_simp; done) | (go_simp; rfl))
     intro gb173 hg w42 hbox hb
     have n0_ := Aside0.mk (blk_below (g := gb164) (o := .cells #[.float .f64 a0_0, .float .f64 a0_1] 35 (0, 0)) bkw hb)
     have n1_ := Aside0.mk (blk_below (g := gb165) (o := .cells #[.float .f64 a1_0, .float .f64 a1_1] 35 (0, 0)) bkw hb)
     have n2_ := Aside0.mk (below_step blw hb)
     have n3_ := Aside0.mk (hbox)
     have n4_ := Aside0.mk ((by rw [hg]; exact (below_size blw) : w.heap.size ≤ gb173))
     have n5_ := Aside0.mk ((by rw [hg]; exact (below_size blw) : w.heap.size ≤ gb173))
     have n6_ := Aside0.mk ((by rw [hg]; exact Nat.ne_of_lt (blk_lt (g := gb164) (o := .cells #[.float .f64 a0_0, .float .f64 a0_1] 35 (0, 0)) bkw) : gb164 ≠ gb173))
     have n7_ := Aside0.mk ((by rw [hg]; exact Nat.ne_of_gt (blk_lt (g := gb164) (o := .cells #[.float .f64 a0_0, .float .f64 a0_1] 35 (0, 0)) bkw) : gb173 ≠ gb164))
     have n8_ := Aside0.mk ((by rw [hg]; exact Nat.ne_of_lt (blk_lt (g := gb165) (o := .cells #[.float .f64 a1_0, .float .f64 a1_1] 35 (0, 0)) bkw) : gb165 ≠ gb173))
     have n9_ := Aside0.mk ((by rw [hg]; exact Nat.ne_of_gt (blk_lt (g := gb165) (o := .cells #[.float .f64 a1_0, .float .f64 a1_1] 35 (0, 0)) bkw) : gb173 ≠ gb165))
     clear BK164
     clear BK165
     clear HB
     have BK164 := n0_
     have BK165 := n1_
     have HB := n2_
     have BK173 := n3_
     have GW173 := n4_
     have GE173 := n5_
     have NB164_173 := n6_
     have NB173_164 := n7_
     have NB165_173 := n8_
     have NB173_165 := n9_
     clear n0_ n1_ n2_ n3_ n4_ n5_ n6_ n7_ n8_ n9_
     clear hb hbox hg
     refine hK.out _ _ ⟨(blk_cell BK164.out 0).trans rfl, (blk_cell BK164.out 1).trans rfl, (blk_cell BK165.out 0).trans rfl, (blk_cell BK165.out 1).trans rfl⟩ (fun hHeld => ?_)
     clear hK K
     refine norm_ (a' := ?_) ?_ ?_
     rotate_left
     ·show Act.put _ (some 5) _ = _
      simp only [Act.put, sp1, sp2, sp3, i64_w, i32_w]
      rfl
     refine one_ (i := 1) (N := some 11) #[true, true, true, false, false, false, false, false, true, false, false] rfl rfl (one_of HT_.out (by kernel_rfl)) (by decide) (fun K hK => ?_)
     refine goes_ Try.func24 (by kernel_rfl) rfl #[.agg #[.float .f64 a0_0, .float .f64 a0_1]] (by rfl) rfl rfl (by (try simp only [List.map_toArray, List.map_cons, List.map_nil]); first | done | rfl | (simp only [List.length_drop, List.length_take]; rfl)) ?_
     with_reducible refine (laws_toTurn.calls a0_0 a0_1 t166 t167 _ A3.out).mono ?_
     rintro e w43 ⟨rfl, hb⟩
     refine ⟨_, rfl, ?_⟩
     have n0_ := Aside0.mk (blk_below (g := gb164) (o := .cells #[.float .f64 a0_0, .float .f64 a0_1] 35 (0, 0)) bkw hb)
     have n1_ := Aside0.mk (blk_below (g := gb165) (o := .cells #[.float .f64 a1_0, .float .f64 a1_1] 35 (0, 0)) bkw hb)
     have n2_ := Aside0.mk (blk_below (g := gb173) (o := .cells #[.float .f64 0, .float .f64 0] 36 (0, 0)) bkw hb)
     have n3_ := Aside0.mk (below_step blw hb)
     clear BK164
     clear BK165
     clear BK173
     clear HB
     have BK164 := n0_
     have BK165 := n1_
     have BK173 := n2_
     have HB := n3_
     clear n0_ n1_ n2_ n3_
     (try clear hb)
     (try clear hb2)
     (try clear hk)
     (try clear hi)
     refine hK.out _ _ ⟨(blk_cell BK164.out 0).trans rfl, (blk_cell BK164.out 1).trans rfl, (blk_cell BK165.out 0).trans rfl, (blk_cell BK165.out 1).trans rfl⟩ (fun hHeld => ?_)
     clear hK K
     refine norm_ (a' := ?_) ?_ ?_
     rotate_left
     ·show Act.put _ (some 11) _ = _
      simp only [Act.put, sp1, sp2, sp3, i64_w, i32_w]
      rfl
     refine one_ (i := 3) (N := some 13) #[true, true, true, true, false, false, false, false, true, false, false] rfl rfl (one_of HT_.out (by kernel_rfl)) (by decide) (fun K hK => ?_)
     refine goes_ Try.func24 (by kernel_rfl) rfl #[.agg #[.float .f64 a1_0, .float .f64 a1_1]] (by rfl) rfl rfl (by (try simp only [List.map_toArray, List.map_cons, List.map_nil]); first | done | rfl | (simp only [List.length_drop, List.length_take]; rfl)) ?_
     with_reducible refine (laws_toTurn.calls a1_0 a1_1 t168 t169 _ A4.out).mono ?_
     rintro e w44 ⟨rfl, hb⟩
     refine ⟨_, rfl, ?_⟩
     have n0_ := Aside0.mk (blk_below (g := gb164) (o := .cells #[.float .f64 a0_0, .float .f64 a0_1] 35 (0, 0)) bkw hb)
     have n1_ := Aside0.mk (blk_below (g := gb165) (o := .cells #[.float .f64 a1_0, .float .f64 a1_1] 35 (0, 0)) bkw hb)
     have n2_ := Aside0.mk (blk_below (g := gb173) (o := .cells #[.float .f64 0, .float .f64 0] 36 (0, 0)) bkw hb)
     have n3_ := Aside0.mk (below_step blw hb)
     clear BK164
     clear BK165
     clear BK173
     clear HB
     have BK164 := n0_
     have BK165 := n1_
     have BK173 := n2_
     have HB := n3_
     clear n0_ n1_ n2_ n3_
     (try clear hb)
     (try clear hb2)
     (try clear hk)
     (try clear hi)
     refine hK.out _ _ ⟨(blk_cell BK164.out 0).trans rfl, (blk_cell BK164.out 1).trans rfl, (blk_cell BK165.out 0).trans rfl, (blk_cell BK165.out 1).trans rfl⟩ (fun hHeld => ?_)
     clear hK K
     refine norm_ (a' := ?_) ?_ ?_
     rotate_left
     ·show Act.put _ (some 13) _ = _
      simp only [Act.put, sp1, sp2, sp3, i64_w, i32_w]
      rfl
     refine one_ (i := 4) (N := some 14) #[true, true, true, true, true, false, false, false, true, false, false] rfl rfl (one_of HT_.out (by kernel_rfl)) (by decide) (fun K hK => ?_)
     refine goes_ Try.func23 (by kernel_rfl) rfl #[.agg #[.float .f64 t166, .float .f64 t167], .agg #[.float .f64 t168, .float .f64 t169]] (by rfl) rfl rfl (by (try simp only [List.map_toArray, List.map_cons, List.map_nil]); first | done | rfl | (simp only [List.length_drop, List.length_take]; rfl)) ?_
     with_reducible refine (spec_MulTurn.calls k t166 t167 t168 t169 t170 t171 t172 _ A5.out).mono ?_
     rintro e w45 ⟨rfl, hb⟩
     refine ⟨_, rfl, ?_⟩
     have n0_ := Aside0.mk (blk_below (g := gb164) (o := .cells #[.float .f64 a0_0, .float .f64 a0_1] 35 (0, 0)) bkw hb)
     have n1_ := Aside0.mk (blk_below (g := gb165) (o := .cells #[.float .f64 a1_0, .float .f64 a1_1] 35 (0, 0)) bkw hb)
     have n2_ := Aside0.mk (blk_below (g := gb173) (o := .cells #[.float .f64 0, .float .f64 0] 36 (0, 0)) bkw hb)
     have n3_ := Aside0.mk (below_step blw hb)
     clear BK164
     clear BK165
     clear BK173
     clear HB
     have BK164 := n0_
     have BK165 := n1_
     have BK173 := n2_
     have HB := n3_
     clear n0_ n1_ n2_ n3_
     (try clear hb)
     (try clear hb2)
     (try clear hk)
     (try clear hi)
     refine hK.out _ _ ⟨(blk_cell BK164.out 0).trans rfl, (blk_cell BK164.out 1).trans rfl, (blk_cell BK165.out 0).trans rfl, (blk_cell BK165.out 1).trans rfl⟩ (fun hHeld => ?_)
     clear hK K
     refine norm_ (a' := ?_) ?_ ?_
     rotate_left
     ·show Act.put _ (some 14) _ = _
      simp only [Act.put, sp1, sp2, sp3, i64_w, i32_w]
      rfl
     refine pure_ (i := 5) (N := some 9) (v := ?_) (a' := ?_) #[true, true, true, true, true, true, false, false, true, false, false] rfl rfl (any_of HT_.out (by kernel_rfl)) (fun _ _ _ h => h) (Or.inl ⟨by rfl, ?_⟩) ?_ ?_
     rotate_left
     ·intro w'
      go_simp
      with_reducible rfl
     rotate_left
     ·simp only [Act.put, sp1, sp2, sp3, i64_w, i32_w]
      rfl
     refine pure_ (i := 6) (N := some 15) (v := ?_) (a' := ?_) #[true, true, true, true, true, true, true, false, true, false, false] rfl rfl (any_of HT_.out (by kernel_rfl)) (fun _ _ _ h => h) (Or.inl ⟨by rfl, ?_⟩) ?_ ?_
     rotate_left
     ·intro w'
      go_simp
      with_reducible rfl
     rotate_left
     ·simp only [Act.put, sp1, sp2, sp3, i64_w, i32_w]
      rfl
     refine pure_ (i := 7) (N := some 16) (v := ?_) (a' := ?_) #[true, true, true, true, true, true, true, true, true, false, false] rfl rfl (any_of HT_.out (by kernel_rfl)) (fun _ _ _ h => h) (Or.inl ⟨by rfl, ?_⟩) ?_ ?_
     rotate_left
     ·intro w'
      go_simp
      with_reducible rfl
     rotate_left
     ·simp only [Act.put, sp1, sp2, sp3, i64_w, i32_w]
      rfl
     exact norm_ (by simp only [putAll, Act.put, List.setIfInBounds_toArray, List.set_cons_zero, List.set_cons_succ]) (hCont (gb173) _ ⟨hHeld, bkw, bkw, bkw, GW173.out, GE173.out, NB164_173.out, NB173_164.out, NB165_173.out, NB173_165.out, blw⟩)
   rintro gb173 w46 ⟨hS_, h0_, h1_, h2_, h3_, h4_, h5_, h6_, h7_, h8_, h9_⟩
   have n0_ : Aside0 (w46.heap[gb164]? = some (.cells #[.float .f64 a0_0, .float .f64 a0_1] 35 (0, 0))) := ⟨h0_⟩
   have n1_ : Aside0 (w46.heap[gb165]? = some (.cells #[.float .f64 a1_0, .float .f64 a1_1] 35 (0, 0))) := ⟨h1_⟩
   have n2_ : Aside0 (w46.heap[gb173]? = some (.cells #[.float .f64 0, .float .f64 0] 36 (0, 0))) := ⟨h2_⟩
   have n3_ : Aside0 (w.heap.size ≤ gb173) := ⟨h3_⟩
   have n4_ : Aside0 (w.heap.size ≤ gb173) := ⟨h4_⟩
   have n5_ : Aside0 (gb164 ≠ gb173) := ⟨h5_⟩
   have n6_ : Aside0 (gb173 ≠ gb164) := ⟨h6_⟩
   have n7_ : Aside0 (gb165 ≠ gb173) := ⟨h7_⟩
   have n8_ : Aside0 (gb173 ≠ gb165) := ⟨h8_⟩
   have n9_ : Aside0 (Below w.heap.size w w46) := ⟨h9_⟩
   clear BK164
   clear BK165
   clear HB
   clear h0_ h1_ h2_ h3_ h4_ h5_ h6_ h7_ h8_ h9_
   have BK164 := n0_
   have BK165 := n1_
   have BK173 := n2_
   have GW173 := n3_
   have GE173 := n4_
   have NB164_173 := n5_
   have NB173_164 := n6_
   have NB165_173 := n7_
   have NB173_165 := n8_
   have HB := n9_
   clear n0_ n1_ n2_ n3_ n4_ n5_ n6_ n7_ n8_ n9_
   have hHeld : w46.cell? ⟨gb164, 0, none⟩ = some (.float .f64 a0_0) ∧ w46.cell? ⟨gb164, 1, none⟩ = some (.float .f64 a0_1) ∧ w46.cell? ⟨gb165, 0, none⟩ = some (.float .f64 a1_0) ∧ w46.cell? ⟨gb165, 1, none⟩ = some (.float .f64 a1_1) := hS_
   refine norm_ (a' := ?_) ?_ ?_
   rotate_left
   ·simp only [putAll, Act.put, List.setIfInBounds_toArray, List.set_cons_zero, List.set_cons_succ]
    rfl
   refine one_ (i := 9) (N := none) #[true, true, true, true, true, true, true, true, true, true, false] rfl rfl (one_of HT_.out (by kernel_rfl)) (by decide) (fun K hK => ?_)
   have hs47 : w46.cell? ⟨gb173, 0, none⟩ = some (.float .f64 0) := (blk_cell BK173.out 0).trans rfl
   have hfs47 := blk_frozen BK173.out 0
   have hns47_0 := NB164_173.out
   have hns47_1 := NB165_173.out
   have hms47_0 := NB173_164.out
   have hms47_1 := NB173_165.out
   have hs48 : w46.cell? ⟨gb173, 1, none⟩ = some (.float .f64 0) := (blk_cell BK173.out 1).trans rfl
   have hfs48 := blk_frozen BK173.out 1
   have hns48_0 := NB164_173.out
   have hns48_1 := NB165_173.out
   have hms48_0 := NB173_164.out
   have hms48_1 := NB173_165.out
   refine skip_ (w1 := ?_) (by rfl) rfl ?_ ?_
   rotate_left
   ·go_simp
    rfl
   refine hK.out _ _ ⟨((cell_far (p := ⟨gb173, _, none⟩) NB164_173.out _).trans (((cell_far (p := ⟨gb173, _, none⟩) NB164_173.out _).trans (hHeld.1)))), ((cell_far (p := ⟨gb173, _, none⟩) NB164_173.out _).trans (((cell_far (p := ⟨gb173, _, none⟩) NB164_173.out _).trans (hHeld.2.1)))), ((cell_far (p := ⟨gb173, _, none⟩) NB165_173.out _).trans (((cell_far (p := ⟨gb173, _, none⟩) NB165_173.out _).trans (hHeld.2.2.1)))), ((cell_far (p := ⟨gb173, _, none⟩) NB165_173.out _).trans (((cell_far (p := ⟨gb173, _, none⟩) NB165_173.out _).trans (hHeld.2.2.2))))⟩ (fun hHeld => ?_)
   clear hK K
   refine pure_ (i := 10) (N := some 6) (v := ?_) (a' := ?_) #[true, true, true, true, true, true, true, true, true, true, true] rfl rfl (any_of HT_.out (by kernel_rfl)) (fun _ _ _ h => h) (Or.inl ⟨by rfl, ?_⟩) ?_ ?_
   rotate_left
   ·intro w'
    go_simp
    with_reducible rfl
   rotate_left
   ·simp only [Act.put, sp1, sp2, sp3, i64_w, i32_w]
    rfl
   refine done_ (done_of HT_.out (by kernel_rfl)) ?_
   try go_wp2
   have n0_ : Aside0 (((w46.setCell ⟨gb173, 0, none⟩ (.float .f64 t170)).setCell ⟨gb173, 1, none⟩ (.float .f64 t171)).heap[gb164]? = some (.cells #[.float .f64 a0_0, .float .f64 a0_1] 35 (0, 0))) := ⟨by (with_reducible repeat (first | refine blk_drewN ?_ _ | refine blk_drew ?_ | refine blk_alloc ?_ _)); refine blk_far ?_ NB164_173.out _; (with_reducible repeat (first | refine blk_drewN ?_ _ | refine blk_drew ?_ | refine blk_alloc ?_ _)); refine blk_far ?_ NB164_173.out _; (with_reducible repeat (first | refine blk_drewN ?_ _ | refine blk_drew ?_ | refine blk_alloc ?_ _)); exact BK164.out⟩
   have n1_ : Aside0 (((w46.setCell ⟨gb173, 0, none⟩ (.float .f64 t170)).setCell ⟨gb173, 1, none⟩ (.float .f64 t171)).heap[gb165]? = some (.cells #[.float .f64 a1_0, .float .f64 a1_1] 35 (0, 0))) := ⟨by (with_reducible repeat (first | refine blk_drewN ?_ _ | refine blk_drew ?_ | refine blk_alloc ?_ _)); refine blk_far ?_ NB165_173.out _; (with_reducible repeat (first | refine blk_drewN ?_ _ | refine blk_drew ?_ | refine blk_alloc ?_ _)); refine blk_far ?_ NB165_173.out _; (with_reducible repeat (first | refine blk_drewN ?_ _ | refine blk_drew ?_ | refine blk_alloc ?_ _)); exact BK165.out⟩
   have n2_ : Aside0 (((w46.setCell ⟨gb173, 0, none⟩ (.float .f64 t170)).setCell ⟨gb173, 1, none⟩ (.float .f64 t171)).heap[gb173]? = some (.cells #[.float .f64 t170, .float .f64 t171] 36 (0, 0))) := ⟨by (with_reducible repeat (first | refine blk_drewN ?_ _ | refine blk_drew ?_ | refine blk_alloc ?_ _)); refine blk_put (cs := #[.float .f64 t170, .float .f64 0]) ?_ 1 _ rfl; (with_reducible repeat (first | refine blk_drewN ?_ _ | refine blk_drew ?_ | refine blk_alloc ?_ _)); refine blk_put (cs := #[.float .f64 0, .float .f64 0]) ?_ 0 _ rfl; (with_reducible repeat (first | refine blk_drewN ?_ _ | refine blk_drew ?_ | refine blk_alloc ?_ _)); exact BK173.out⟩
   have n3_ : Aside0 (Below w.heap.size w ((w46.setCell ⟨gb173, 0, none⟩ (.float .f64 t170)).setCell ⟨gb173, 1, none⟩ (.float .f64 t171))) := ⟨blw⟩
   (try clear BK164)
   (try clear BK165)
   (try clear BK173)
   (try clear HB)
   generalize ((w46.setCell ⟨gb173, 0, none⟩ (.float .f64 t170)).setCell ⟨gb173, 1, none⟩ (.float .f64 t171)) = w49 at n0_ n1_ n2_ n3_ ⊢
   have BK164 := n0_
   have BK165 := n1_
   have BK173 := n2_
   have HB := n3_
   clear n0_ n1_ n2_ n3_
   have n0_ := Aside0.mk (blk_drew BK164.out)
   have n1_ := Aside0.mk (blk_drew BK165.out)
   have n2_ := Aside0.mk (blk_drew BK173.out)
   have n3_ := Aside0.mk (below_drew1 HB.out)
   clear BK164
   clear BK165
   clear BK173
   clear HB
   have BK164 := n0_
   have BK165 := n1_
   have BK173 := n2_
   have HB := n3_
   clear n0_ n1_ n2_ n3_
   refine start_ (n := 11) (S := fun w' => w'.cell? ⟨gb164, 0, none⟩ = some (.float .f64 a0_0) ∧ w'.cell? ⟨gb164, 1, none⟩ = some (.float .f64 a0_1) ∧ w'.cell? ⟨gb165, 0, none⟩ = some (.float .f64 a1_0) ∧ w'.cell? ⟨gb165, 1, none⟩ = some (.float .f64 a1_1)) (ds := []) #[false, false, false, false, false, false, false, false, false, false, false] (by kernel_rfl) rfl rfl ⟨(blk_cell BK164.out 0).trans rfl, (blk_cell BK164.out 1).trans rfl, (blk_cell BK165.out 0).trans rfl, (blk_cell BK165.out 1).trans rfl⟩ (fun hHeld => ?_); refine with_tabW laws_FnExactMulTurn.tab2 laws_FnExactMulTurn.bits2 (fun HT_ HW_ => ?_)
   generalize w49.drew = w50 at BK164 BK165 BK173 HB hHeld ⊢
   refine take_ (i := 0) (N := some 18) (v := ?_) (a' := ?_) #[true, false, false, false, false, false, false, false, false, false, false] rfl rfl (take_ofW HT_.out HW_.out (by kernel_rfl)) (fun _ _ _ h => h) (Or.inl ⟨by rfl, ?_⟩) hHeld ?_ ?_
   rotate_left
   ·rintro w' ⟨s0, s1, s2, s3⟩
    go_simp
    with_reducible rfl
   rotate_left
   ·simp only [Act.put, sp1, sp2, sp3, i64_w, i32_w]
    rfl
   refine take_ (i := 2) (N := some 20) (v := ?_) (a' := ?_) #[true, false, true, false, false, false, false, false, false, false, false] rfl rfl (take_ofW HT_.out HW_.out (by kernel_rfl)) (fun _ _ _ h => h) (Or.inl ⟨by rfl, ?_⟩) hHeld ?_ ?_
   rotate_left
   ·rintro w' ⟨s0, s1, s2, s3⟩
    go_simp
    with_reducible rfl
   rotate_left
   ·simp only [Act.put, sp1, sp2, sp3, i64_w, i32_w]
    rfl
   refine join_ (σ := Nat) 2 #[true, true, true, true, true, true, true, true, true, false, false] (fun s_ => [(19, .agg #[.float .f64 t174, .float .f64 t175]), (21, .agg #[.float .f64 t176, .float .f64 t177]), (22, .tuple #[.agg #[.float .f64 t178, .float .f64 t179], .bool t180]), (7, .pointer (some ⟨s_, 0, none⟩)), (17, .tuple #[.agg #[.float .f64 t178, .float .f64 t179], .bool t180]), (23, .agg #[.float .f64 t178, .float .f64 t179]), (24, .bool t180)]) (fun s_ w' => (w'.cell? ⟨gb164, 0, none⟩ = some (.float .f64 a0_0) ∧ w'.cell? ⟨gb164, 1, none⟩ = some (.float .f64 a0_1) ∧ w'.cell? ⟨gb165, 0, none⟩ = some (.float .f64 a1_0) ∧ w'.cell? ⟨gb165, 1, none⟩ = some (.float .f64 a1_1)) ∧ (w'.heap[gb164]? = some (.cells #[.float .f64 a0_0, .float .f64 a0_1] 35 (0, 0))) ∧ (w'.heap[gb165]? = some (.cells #[.float .f64 a1_0, .float .f64 a1_1] 35 (0, 0))) ∧ (w'.heap[gb173]? = some (.cells #[.float .f64 t170, .float .f64 t171] 36 (0, 0))) ∧ (w'.heap[s_]? = some (.cells #[.float .f64 0, .float .f64 0] 36 (0, 0))) ∧ (w.heap.size ≤ s_) ∧ (w.heap.size ≤ s_) ∧ (gb164 ≠ s_) ∧ (s_ ≠ gb164) ∧ (gb165 ≠ s_) ∧ (s_ ≠ gb165) ∧ (gb173 ≠ s_) ∧ (s_ ≠ gb173) ∧ (Below w.heap.size w w')) ?_ ?_
   rotate_left
   ·intro hCont
    refine two_ (i := 1) (j := 8) (Ni := some 19) (Nj := some 7) #[true, true, true, false, false, false, false, false, false, false, false] #[true, false, true, false, false, false, false, false, true, false, false] rfl rfl rfl rfl (two_of HT_.out (by kernel_rfl)) (by decide) (by decide) (fun K hK => ?_) (fun K hK => ?_)
    ·skip
     refine goes_ Try.func24 (by kernel_rfl) rfl #[.agg #[.float .f64 a0_0, .float .f64 a0_1]] (by rfl) rfl rfl (by (try simp only [List.map_toArray, List.map_cons, List.map_nil]); first | done | rfl | (simp only [List.length_drop, List.length_take]; rfl)) ?_
     with_reducible refine (laws_toTurn.calls a0_0 a0_1 t174 t175 _ A6.out).mono ?_
     rintro e w51 ⟨rfl, hb⟩
     refine ⟨_, rfl, ?_⟩
     have n0_ := Aside0.mk (blk_below (g := gb164) (o := .cells #[.float .f64 a0_0, .float .f64 a0_1] 35 (0, 0)) bkw hb)
     have n1_ := Aside0.mk (blk_below (g := gb165) (o := .cells #[.float .f64 a1_0, .float .f64 a1_1] 35 (0, 0)) bkw hb)
     have n2_ := Aside0.mk (blk_below (g := gb173) (o := .cells #[.float .f64 t170, .float .f64 t171] 36 (0, 0)) bkw hb)
     have n3_ := Aside0.mk (below_step blw hb)
     clear BK164
     clear BK165
     clear BK173
     clear HB
     have BK164 := n0_
     have BK165 := n1_
     have BK173 := n2_
     have HB := n3_
     clear n0_ n1_ n2_ n3_
     (try clear hb)
     (try clear hb2)
     (try clear hk)
     (try clear hi)
     refine hK.out _ _ ⟨(blk_cell BK164.out 0).trans rfl, (blk_cell BK164.out 1).trans rfl, (blk_cell BK165.out 0).trans rfl, (blk_cell BK165.out 1).trans rfl⟩ (fun hHeld => ?_)
     clear hK K
     refine norm_ (a' := ?_) ?_ ?_
     rotate_left
     ·show Act.put _ (some 19) _ = _
      simp only [Act.put, sp1, sp2, sp3, i64_w, i32_w]
      rfl
     refine two_ (i := 3) (j := 8) (Ni := some 21) (Nj := some 7) #[true, true, true, true, false, false, false, false, false, false, false] #[true, true, true, false, false, false, false, false, true, false, false] rfl rfl rfl rfl (two_of HT_.out (by kernel_rfl)) (by decide) (by decide) (fun K hK => ?_) (fun K hK => ?_)
     ·skip
      refine goes_ Try.func24 (by kernel_rfl) rfl #[.agg #[.float .f64 a1_0, .float .f64 a1_1]] (by rfl) rfl rfl (by (try simp only [List.map_toArray, List.map_cons, List.map_nil]); first | done | rfl | (simp only [List.length_drop, List.length_take]; rfl)) ?_
      with_reducible refine (laws_toTurn.calls a1_0 a1_1 t176 t177 _ A7.out).mono ?_
      rintro e w52 ⟨rfl, hb⟩
      refine ⟨_, rfl, ?_⟩
      have n0_ := Aside0.mk (blk_below (g := gb164) (o := .cells #[.float .f64 a0_0, .float .f64 a0_1] 35 (0, 0)) bkw hb)
      have n1_ := Aside0.mk (blk_below (g := gb165) (o := .cells #[.float .f64 a1_0, .float .f64 a1_1] 35 (0, 0)) bkw hb)
      have n2_ := Aside0.mk (blk_below (g := gb173) (o := .cells #[.float .f64 t170, .float .f64 t171] 36 (0, 0)) bkw hb)
      have n3_ := Aside0.mk (below_step blw hb)
      clear BK164
      clear BK165
      clear BK173
      clear HB
      have BK164 := n0_
      have BK165 := n1_
      have BK173 := n2_
      have HB := n3_
      clear n0_ n1_ n2_ n3_
      (try clear hb)
      (try clear hb2)
      (try clear hk)
      (try clear hi)
      refine hK.out _ _ ⟨(blk_cell BK164.out 0).trans rfl, (blk_cell BK164.out 1).trans rfl, (blk_cell BK165.out 0).trans rfl, (blk_cell BK165.out 1).trans rfl⟩ (fun hHeld => ?_)
      clear hK K
      refine norm_ (a' := ?_) ?_ ?_
      rotate_left
      ·show Act.put _ (some 21) _ = _
       simp only [Act.put, sp1, sp2, sp3, i64_w, i32_w]
       rfl
      refine two_ (i := 4) (j := 8) (Ni := some 22) (Nj := some 7) #[true, true, true, true, true, false, false, false, false, false, false] #[true, true, true, true, false, false, false, false, true, false, false] rfl rfl rfl rfl (two_of HT_.out (by kernel_rfl)) (by decide) (by decide) (fun K hK => ?_) (fun K hK => ?_)
      ·skip
       refine goes_ Try.func25 (by kernel_rfl) rfl #[.agg #[.float .f64 t174, .float .f64 t175], .agg #[.float .f64 t176, .float .f64 t177]] (by rfl) rfl rfl (by (try simp only [List.map_toArray, List.map_cons, List.map_nil]); first | done | rfl | (simp only [List.length_drop, List.length_take]; rfl)) ?_
       with_reducible refine (impl_MulTurn.calls k t174 t175 t176 t177 t178 t179 t180 _ A8.out).mono ?_
       rintro e w53 ⟨rfl, hb⟩
       refine ⟨_, rfl, ?_⟩
       have n0_ := Aside0.mk (blk_below (g := gb164) (o := .cells #[.float .f64 a0_0, .float .f64 a0_1] 35 (0, 0)) bkw hb)
       have n1_ := Aside0.mk (blk_below (g := gb165) (o := .cells #[.float .f64 a1_0, .float .f64 a1_1] 35 (0, 0)) bkw hb)
       have n2_ := Aside0.mk (blk_below (g := gb173) (o := .cells #[.float .f64 t170, .float .f64 t171] 36 (0, 0)) bkw hb)
       have n3_ := Aside0.mk (below_step blw hb)
       clear BK164
       clear BK165
       clear BK173
       clear HB
       have BK164 := n0_
       have BK165 := n1_
       have BK173 := n2_
       have HB := n3_
       clear n0_ n1_ n2_ n3_
       (try clear hb)
       (try clear hb2)
       (try clear hk)
       (try clear hi)
       refine hK.out _ _ ⟨(blk_cell BK164.out 0).trans rfl, (blk_cell BK164.out 1).trans rfl, (blk_cell BK165.out 0).trans rfl, (blk_cell BK165.out 1).trans rfl⟩ (fun hHeld => ?_)
       clear hK K
       refine norm_ (a' := ?_) ?_ ?_
       rotate_left
       ·show Act.put _ (some 22) _ = _
        simp only [Act.put, sp1, sp2, sp3, i64_w, i32_w]
        rfl
       refine pure_ (i := 5) (N := some 17) (v := ?_) (a' := ?_) #[true, true, true, true, true, true, false, false, false, false, false] rfl rfl (any_of HT_.out (by kernel_rfl)) (fun _ _ _ h => h) (Or.inl ⟨by rfl, ?_⟩) ?_ ?_
       rotate_left
       ·intro w'
        go_simp
        with_reducible rfl
       rotate_left
       ·simp only [Act.put, sp1, sp2, sp3, i64_w, i32_w]
        rfl
       refine pure_ (i := 6) (N := some 23) (v := ?_) (a' := ?_) #[true, true, true, true, true, true, true, false, false, false, false] rfl rfl (any_of HT_.out (by kernel_rfl)) (fun _ _ _ h => h) (Or.inl ⟨by rfl, ?_⟩) ?_ ?_
       rotate_left
       ·intro w'
        go_simp
        with_reducible rfl
       rotate_left
       ·simp only [Act.put, sp1, sp2, sp3, i64_w, i32_w]
        rfl
       refine pure_ (i := 7) (N := some 24) (v := ?_) (a' := ?_) #[true, true, true, true, true, true, true, true, false, false, false] rfl rfl (any_of HT_.out (by kernel_rfl)) (fun _ _ _ h => h) (Or.inl ⟨by rfl, ?_⟩) ?_ ?_
       rotate_left
       ·intro w'
        go_simp
        with_reducible rfl
       rotate_left
       ·simp only [Act.put, sp1, sp2, sp3, i64_w, i32_w]
        rfl
       refine one_ (i := 8) (N := some 7) #[true, true, true, true, true, true, true, true, true, false, false] rfl rfl (one_of HT_.out (by kernel_rfl)) (by decide) (fun K hK => ?_)
       refine box_step ?hg (N := 7) ?hd (cs := #[.float .f64 0, .float .f64 0]) (t := 36) ?hr ?_; (case hd => rfl); (case hg => rfl); (case hr => first | (go_simp; done) | (go_simp; rfl))
       intro gb181 hg w54 hbox hb
       have n0_ := Aside0.mk (blk_below (g := gb164) (o := .cells #[.float .f64 a0_0, .float .f64 a0_1] 35 (0, 0)) bkw hb)
       have n1_ := Aside0.mk (blk_below (g := gb165) (o := .cells #[.float .f64 a1_0, .float .f64 a1_1] 35 (0, 0)) bkw hb)
       have n2_ := Aside0.mk (blk_below (g := gb173) (o := .cells #[.float .f64 t170, .float .f64 t171] 36 (0, 0)) bkw hb)
       have n3_ := Aside0.mk (below_step blw hb)
       have n4_ := Aside0.mk (hbox)
       have n5_ := Aside0.mk ((by rw [hg]; exact (below_size blw) : w.heap.size ≤ gb181))
       have n6_ := Aside0.mk ((by rw [hg]; exact (below_size blw) : w.heap.size ≤ gb181))
       have n7_ := Aside0.mk ((by rw [hg]; exact Nat.ne_of_lt (blk_lt (g := gb164) (o := .cells #[.float .f64 a0_0, .float .f64 a0_1] 35 (0, 0)) bkw) : gb164 ≠ gb181))
       have n8_ := Aside0.mk ((by rw [hg]; exact Nat.ne_of_gt (blk_lt (g := gb164) (o := .cells #[.float .f64 a0_0, .float .f64 a0_1] 35 (0, 0)) bkw) : gb181 ≠ gb164))
       have n9_ := Aside0.mk ((by rw [hg]; exact Nat.ne_of_lt (blk_lt (g := gb165) (o := .cells #[.float .f64 a1_0, .float .f64 a1_1] 35 (0, 0)) bkw) : gb165 ≠ gb181))
       have n10_ := Aside0.mk ((by rw [hg]; exact Nat.ne_of_gt (blk_lt (g := gb165) (o := .cells #[.float .f64 a1_0, .float .f64 a1_1] 35 (0, 0)) bkw) : gb181 ≠ gb165))
       have n11_ := Aside0.mk ((by rw [hg]; exact Nat.ne_of_lt (blk_lt (g := gb173) (o := .cells #[.float .f64 t170, .float .f64 t171] 36 (0, 0)) bkw) : gb173 ≠ gb181))
       have n12_ := Aside0.mk ((by rw [hg]; exact Nat.ne_of_gt (blk_lt (g := gb173) (o := .cells #[.float .f64 t170, .float .f64 t171] 36 (0, 0)) bkw) : gb181 ≠ gb173))
       clear BK164
       clear BK165
       clear BK173
       clear HB
       have BK164 := n0_
       have BK165 := n1_
       have BK173 := n2_
       have HB := n3_
       have BK181 := n4_
       have GW181 := n5_
       have GE181 := n6_
       have NB164_181 := n7_
       have NB181_164 := n8_
       have NB165_181 := n9_
       have NB181_165 := n10_
       have NB173_181 := n11_
       have NB181_173 := n12_
       clear n0_ n1_ n2_ n3_ n4_ n5_ n6_ n7_ n8_ n9_ n10_ n11_ n12_
       clear hb hbox hg
       refine hK.out _ _ ⟨(blk_cell BK164.out 0).trans rfl, (blk_cell BK164.out 1).trans rfl, (blk_cell BK165.out 0).trans rfl, (blk_cell BK165.out 1).trans rfl⟩ (fun hHeld => ?_)
       clear hK K
       refine norm_ (a' := ?_) ?_ ?_
       rotate_left
       ·show Act.put _ (some 7) _ = _
        simp only [Act.put, sp1, sp2, sp3, i64_w, i32_w]
        rfl
       exact norm_ (by simp only [putAll, Act.put, List.setIfInBounds_toArray, List.set_cons_zero, List.set_cons_succ]) (hCont (gb181) _ ⟨hHeld, bkw, bkw, bkw, bkw, GW181.out, GE181.out, NB164_181.out, NB181_164.out, NB165_181.out, NB181_165.out, NB173_181.out, NB181_173.out, blw⟩)
      ·skip
       refine box_step ?hg (N := 7) ?hd (cs := #[.float .f64 0, .float .f64 0]) (t := 36) ?hr ?_; (case hd => rfl); (case hg => rfl); (case hr => first | (go_simp; done) | (go_simp; rfl))
       intro gb181 hg w53 hbox hb
       have n0_ := Aside0.mk (blk_below (g := gb164) (o := .cells #[.float .f64 a0_0, .float .f64 a0_1] 35 (0, 0)) bkw hb)
       have n1_ := Aside0.mk (blk_below (g := gb165) (o := .cells #[.float .f64 a1_0, .float .f64 a1_1] 35 (0, 0)) bkw hb)
       have n2_ := Aside0.mk (blk_below (g := gb173) (o := .cells #[.float .f64 t170, .float .f64 t171] 36 (0, 0)) bkw hb)
       have n3_ := Aside0.mk (below_step blw hb)
       have n4_ := Aside0.mk (hbox)
       have n5_ := Aside0.mk ((by rw [hg]; exact (below_size blw) : w.heap.size ≤ gb181))
       have n6_ := Aside0.mk ((by rw [hg]; exact (below_size blw) : w.heap.size ≤ gb181))
       have n7_ := Aside0.mk ((by rw [hg]; exact Nat.ne_of_lt (blk_lt (g := gb164) (o := .cells #[.float .f64 a0_0, .float .f64 a0_1] 35 (0, 0)) bkw) : gb164 ≠ gb181))
       have n8_ := Aside0.mk ((by rw [hg]; exact Nat.ne_of_gt (blk_lt (g := gb164) (o := .cells #[.float .f64 a0_0, .float .f64 a0_1] 35 (0, 0)) bkw) : gb181 ≠ gb164))
       have n9_ := Aside0.mk ((by rw [hg]; exact Nat.ne_of_lt (blk_lt (g := gb165) (o := .cells #[.float .f64 a1_0, .float .f64 a1_1] 35 (0, 0)) bkw) : gb165 ≠ gb181))
       have n10_ := Aside0.mk ((by rw [hg]; exact Nat.ne_of_gt (blk_lt (g := gb165) (o := .cells #[.float .f64 a1_0, .float .f64 a1_1] 35 (0, 0)) bkw) : gb181 ≠ gb165))
       have n11_ := Aside0.mk ((by rw [hg]; exact Nat.ne_of_lt (blk_lt (g := gb173) (o := .cells #[.float .f64 t170, .float .f64 t171] 36 (0, 0)) bkw) : gb173 ≠ gb181))
       have n12_ := Aside0.mk ((by rw [hg]; exact Nat.ne_of_gt (blk_lt (g := gb173) (o := .cells #[.float .f64 t170, .float .f64 t171] 36 (0, 0)) bkw) : gb181 ≠ gb173))
       clear BK164
       clear BK165
       clear BK173
       clear HB
       have BK164 := n0_
       have BK165 := n1_
       have BK173 := n2_
       have HB := n3_
       have BK181 := n4_
       have GW181 := n5_
       have GE181 := n6_
       have NB164_181 := n7_
       have NB181_164 := n8_
       have NB165_181 := n9_
       have NB181_165 := n10_
       have NB173_181 := n11_
       have NB181_173 := n12_
       clear n0_ n1_ n2_ n3_ n4_ n5_ n6_ n7_ n8_ n9_ n10_ n11_ n12_
       clear hb hbox hg
       refine hK.out _ _ ⟨(blk_cell BK164.out 0).trans rfl, (blk_cell BK164.out 1).trans rfl, (blk_cell BK165.out 0).trans rfl, (blk_cell BK165.out 1).trans rfl⟩ (fun hHeld => ?_)
       clear hK K
       refine norm_ (a' := ?_) ?_ ?_
       rotate_left
       ·show Act.put _ (some 7) _ = _
        simp only [Act.put, sp1, sp2, sp3, i64_w, i32_w]
        rfl
       refine one_ (i := 4) (N := some 22) #[true, true, true, true, true, false, false, false, true, false, false] rfl rfl (one_of HT_.out (by kernel_rfl)) (by decide) (fun K hK => ?_)
       refine goes_ Try.func25 (by kernel_rfl) rfl #[.agg #[.float .f64 t174, .float .f64 t175], .agg #[.float .f64 t176, .float .f64 t177]] (by rfl) rfl rfl (by (try simp only [List.map_toArray, List.map_cons, List.map_nil]); first | done | rfl | (simp only [List.length_drop, List.length_take]; rfl)) ?_
       with_reducible refine (impl_MulTurn.calls k t174 t175 t176 t177 t178 t179 t180 _ A8.out).mono ?_
       rintro e w54 ⟨rfl, hb⟩
       refine ⟨_, rfl, ?_⟩
       have n0_ := Aside0.mk (blk_below (g := gb164) (o := .cells #[.float .f64 a0_0, .float .f64 a0_1] 35 (0, 0)) bkw hb)
       have n1_ := Aside0.mk (blk_below (g := gb165) (o := .cells #[.float .f64 a1_0, .float .f64 a1_1] 35 (0, 0)) bkw hb)
       have n2_ := Aside0.mk (blk_below (g := gb173) (o := .cells #[.float .f64 t170, .float .f64 t171] 36 (0, 0)) bkw hb)
       have n3_ := Aside0.mk (blk_below (g := gb181) (o := .cells #[.float .f64 0, .float .f64 0] 36 (0, 0)) bkw hb)
       have n4_ := Aside0.mk (below_step blw hb)
       clear BK164
       clear BK165
       clear BK173
       clear BK181
       clear HB
       have BK164 := n0_
       have BK165 := n1_
       have BK173 := n2_
       have BK181 := n3_
       have HB := n4_
       clear n0_ n1_ n2_ n3_ n4_
       (try clear hb)
       (try clear hb2)
       (try clear hk)
       (try clear hi)
       refine hK.out _ _ ⟨(blk_cell BK164.out 0).trans rfl, (blk_cell BK164.out 1).trans rfl, (blk_cell BK165.out 0).trans rfl, (blk_cell BK165.out 1).trans rfl⟩ (fun hHeld => ?_)
       clear hK K
       refine norm_ (a' := ?_) ?_ ?_
       rotate_left
       ·show Act.put _ (some 22) _ = _
        simp only [Act.put, sp1, sp2, sp3, i64_w, i32_w]
        rfl
       refine pure_ (i := 5) (N := some 17) (v := ?_) (a' := ?_) #[true, true, true, true, true, true, false, false, true, false, false] rfl rfl (any_of HT_.out (by kernel_rfl)) (fun _ _ _ h => h) (Or.inl ⟨by rfl, ?_⟩) ?_ ?_
       rotate_left
       ·intro w'
        go_simp
        with_reducible rfl
       rotate_left
       ·simp only [Act.put, sp1, sp2, sp3, i64_w, i32_w]
        rfl
       refine pure_ (i := 6) (N := some 23) (v := ?_) (a' := ?_) #[true, true, true, true, true, true, true, false, true, false, false] rfl rfl (any_of HT_.out (by kernel_rfl)) (fun _ _ _ h => h) (Or.inl ⟨by rfl, ?_⟩) ?_ ?_
       rotate_left
       ·intro w'
        go_simp
        with_reducible rfl
       rotate_left
       ·simp only [Act.put, sp1, sp2, sp3, i64_w, i32_w]
        rfl
       refine pure_ (i := 7) (N := some 24) (v := ?_) (a' := ?_) #[true, true, true, true, true, true, true, true, true, false, false] rfl rfl (any_of HT_.out (by kernel_rfl)) (fun _ _ _ h => h) (Or.inl ⟨by rfl, ?_⟩) ?_ ?_
       rotate_left
       ·intro w'
        go_simp
        with_reducible rfl
       rotate_left
       ·simp only [Act.put, sp1, sp2, sp3, i64_w, i32_w]
        rfl
       exact norm_ (by simp only [putAll, Act.put, List.setIfInBounds_toArray, List.set_cons_zero, List.set_cons_succ]) (hCont (gb181) _ ⟨hHeld, bkw, bkw, bkw, bkw, GW181.out, GE181.out, NB164_181.out, NB181_164.out, NB165_181.out, NB181_165.out, NB173_181.out, NB181_173.out, blw⟩)
     ·skip
      refine box_step ?hg (N := 7) ?hd (cs := #[.float .f64 0, .float .f64 0]) (t := 36) ?hr ?_; (case hd => rfl); (case hg => rfl); (case hr => first | (go_simp; done) | (go_simp; rfl))
      intro gb181 hg w52 hbox hb
      have n0_ := Aside0.mk (blk_below (g := gb164) (o := .cells #[.float .f64 a0_0, .float .f64 a0_1] 35 (0, 0)) bkw hb)
      have n1_ := Aside0.mk (blk_below (g := gb165) (o := .cells #[.float .f64 a1_0, .float .f64 a1_1] 35 (0, 0)) bkw hb)
      have n2_ := Aside0.mk (blk_below (g := gb173) (o := .cells #[.float .f64 t170, .float .f64 t171] 36 (0, 0)) bkw hb)
      have n3_ := Aside0.mk (below_step blw hb)
      have n4_ := Aside0.mk (hbox)
      have n5_ := Aside0.mk ((by rw [hg]; exact (below_size blw) : w.heap.size ≤ gb181))
      have n6_ := Aside0.mk ((by rw [hg]; exact (below_size blw) : w.heap.size ≤ gb181))
      have n7_ := Aside0.mk ((by rw [hg]; exact Nat.ne_of_lt (blk_lt (g := gb164) (o := .cells #[.float .f64 a0_0, .float .f64 a0_1] 35 (0, 0)) bkw) : gb164 ≠ gb181))
      have n8_ := Aside0.mk ((by rw [hg]; exact Nat.ne_of_gt (blk_lt (g := gb164) (o := .cells #[.float .f64 a0_0, .float .f64 a0_1] 35 (0, 0)) bkw) : gb181 ≠ gb164))
      have n9_ := Aside0.mk ((by rw [hg]; exact Nat.ne_of_lt (blk_lt (g := gb165) (o := .cells #[.float .f64 a1_0, .float .f64 a1_1] 35 (0, 0)) bkw) : gb165 ≠ gb181))
      have n10_ := Aside0.mk ((by rw [hg]; exact Nat.ne_of_gt (blk_lt (g := gb165) (o := .cells #[.float .f64 a1_0, .float .f64 a1_1] 35 (0, 0)) bkw) : gb181 ≠ gb165))
      have n11_ := Aside0.mk ((by rw [hg]; exact Nat.ne_of_lt (blk_lt (g := gb173) (o := .cells #[.float .f64 t170, .float .f64 t171] 36 (0, 0)) bkw) : gb173 ≠ gb181))
      have n12_ := Aside0.mk ((by rw [hg]; exact Nat.ne_of_gt (blk_lt (g := gb173) (o := .cells #[.float .f64 t170, .float .f64 t171] 36 (0, 0)) bkw) : gb181 ≠ gb173))
      clear BK164
      clear BK165
      clear BK173
      clear HB
      have BK164 := n0_
      have BK165 := n1_
      have BK173 := n2_
      have HB := n3_
      have BK181 := n4_
      have GW181 := n5_
      have GE181 := n6_
      have NB164_181 := n7_
      have NB181_164 := n8_
      have NB165_181 := n9_
      have NB181_165 := n10_
      have NB173_181 := n11_
      have NB181_173 := n12_
      clear n0_ n1_ n2_ n3_ n4_ n5_ n6_ n7_ n8_ n9_ n10_ n11_ n12_
      clear hb hbox hg
      refine hK.out _ _ ⟨(blk_cell BK164.out 0).trans rfl, (blk_cell BK164.out 1).trans rfl, (blk_cell BK165.out 0).trans rfl, (blk_cell BK165.out 1).trans rfl⟩ (fun hHeld => ?_)
      clear hK K
      refine norm_ (a' := ?_) ?_ ?_
      rotate_left
      ·show Act.put _ (some 7) _ = _
       simp only [Act.put, sp1, sp2, sp3, i64_w, i32_w]
       rfl
      refine one_ (i := 3) (N := some 21) #[true, true, true, true, false, false, false, false, true, false, false] rfl rfl (one_of HT_.out (by kernel_rfl)) (by decide) (fun K hK => ?_)
      refine goes_ Try.func24 (by kernel_rfl) rfl #[.agg #[.float .f64 a1_0, .float .f64 a1_1]] (by rfl) rfl rfl (by (try simp only [List.map_toArray, List.map_cons, List.map_nil]); first | done | rfl | (simp only [List.length_drop, List.length_take]; rfl)) ?_
      with_reducible refine (laws_toTurn.calls a1_0 a1_1 t176 t177 _ A7.out).mono ?_
      rintro e w53 ⟨rfl, hb⟩
      refine ⟨_, rfl, ?_⟩
      have n0_ := Aside0.mk (blk_below (g := gb164) (o := .cells #[.float .f64 a0_0, .float .f64 a0_1] 35 (0, 0)) bkw hb)
      have n1_ := Aside0.mk (blk_below (g := gb165) (o := .cells #[.float .f64 a1_0, .float .f64 a1_1] 35 (0, 0)) bkw hb)
      have n2_ := Aside0.mk (blk_below (g := gb173) (o := .cells #[.float .f64 t170, .float .f64 t171] 36 (0, 0)) bkw hb)
      have n3_ := Aside0.mk (blk_below (g := gb181) (o := .cells #[.float .f64 0, .float .f64 0] 36 (0, 0)) bkw hb)
      have n4_ := Aside0.mk (below_step blw hb)
      clear BK164
      clear BK165
      clear BK173
      clear BK181
      clear HB
      have BK164 := n0_
      have BK165 := n1_
      have BK173 := n2_
      have BK181 := n3_
      have HB := n4_
      clear n0_ n1_ n2_ n3_ n4_
      (try clear hb)
      (try clear hb2)
      (try clear hk)
      (try clear hi)
      refine hK.out _ _ ⟨(blk_cell BK164.out 0).trans rfl, (blk_cell BK164.out 1).trans rfl, (blk_cell BK165.out 0).trans rfl, (blk_cell BK165.out 1).trans rfl⟩ (fun hHeld => ?_)
      clear hK K
      refine norm_ (a' := ?_) ?_ ?_
      rotate_left
      ·show Act.put _ (some 21) _ = _
       simp only [Act.put, sp1, sp2, sp3, i64_w, i32_w]
       rfl
      refine one_ (i := 4) (N := some 22) #[true, true, true, true, true, false, false, false, true, false, false] rfl rfl (one_of HT_.out (by kernel_rfl)) (by decide) (fun K hK => ?_)
      refine goes_ Try.func25 (by kernel_rfl) rfl #[.agg #[.float .f64 t174, .float .f64 t175], .agg #[.float .f64 t176, .float .f64 t177]] (by rfl) rfl rfl (by (try simp only [List.map_toArray, List.map_cons, List.map_nil]); first | done | rfl | (simp only [List.length_drop, List.length_take]; rfl)) ?_
      with_reducible refine (impl_MulTurn.calls k t174 t175 t176 t177 t178 t179 t180 _ A8.out).mono ?_
      rintro e w54 ⟨rfl, hb⟩
      refine ⟨_, rfl, ?_⟩
      have n0_ := Aside0.mk (blk_below (g := gb164) (o := .cells #[.float .f64 a0_0, .float .f64 a0_1] 35 (0, 0)) bkw hb)
      have n1_ := Aside0.mk (blk_below (g := gb165) (o := .cells #[.float .f64 a1_0, .float .f64 a1_1] 35 (0, 0)) bkw hb)
      have n2_ := Aside0.mk (blk_below (g := gb173) (o := .cells #[.float .f64 t170, .float .f64 t171] 36 (0, 0)) bkw hb)
      have n3_ := Aside0.mk (blk_below (g := gb181) (o := .cells #[.float .f64 0, .float .f64 0] 36 (0, 0)) bkw hb)
      have n4_ := Aside0.mk (below_step blw hb)
      clear BK164
      clear BK165
      clear BK173
      clear BK181
      clear HB
      have BK164 := n0_
      have BK165 := n1_
      have BK173 := n2_
      have BK181 := n3_
      have HB := n4_
      clear n0_ n1_ n2_ n3_ n4_
      (try clear hb)
      (try clear hb2)
      (try clear hk)
      (try clear hi)
      refine hK.out _ _ ⟨(blk_cell BK164.out 0).trans rfl, (blk_cell BK164.out 1).trans rfl, (blk_cell BK165.out 0).trans rfl, (blk_cell BK165.out 1).trans rfl⟩ (fun hHeld => ?_)
      clear hK K
      refine norm_ (a' := ?_) ?_ ?_
      rotate_left
      ·show Act.put _ (some 22) _ = _
       simp only [Act.put, sp1, sp2, sp3, i64_w, i32_w]
       rfl
      refine pure_ (i := 5) (N := some 17) (v := ?_) (a' := ?_) #[true, true, true, true, true, true, false, false, true, false, false] rfl rfl (any_of HT_.out (by kernel_rfl)) (fun _ _ _ h => h) (Or.inl ⟨by rfl, ?_⟩) ?_ ?_
      rotate_left
      ·intro w'
       go_simp
       with_reducible rfl
      rotate_left
      ·simp only [Act.put, sp1, sp2, sp3, i64_w, i32_w]
       rfl
      refine pure_ (i := 6) (N := some 23) (v := ?_) (a' := ?_) #[true, true, true, true, true, true, true, false, true, false, false] rfl rfl (any_of HT_.out (by kernel_rfl)) (fun _ _ _ h => h) (Or.inl ⟨by rfl, ?_⟩) ?_ ?_
      rotate_left
      ·intro w'
       go_simp
       with_reducible rfl
      rotate_left
      ·simp only [Act.put, sp1, sp2, sp3, i64_w, i32_w]
       rfl
      refine pure_ (i := 7) (N := some 24) (v := ?_) (a' := ?_) #[true, true, true, true, true, true, true, true, true, false, false] rfl rfl (any_of HT_.out (by kernel_rfl)) (fun _ _ _ h => h) (Or.inl ⟨by rfl, ?_⟩) ?_ ?_
      rotate_left
      ·intro w'
       go_simp
       with_reducible rfl
      rotate_left
      ·simp only [Act.put, sp1, sp2, sp3, i64_w, i32_w]
       rfl
      exact norm_ (by simp only [putAll, Act.put, List.setIfInBounds_toArray, List.set_cons_zero, List.set_cons_succ]) (hCont (gb181) _ ⟨hHeld, bkw, bkw, bkw, bkw, GW181.out, GE181.out, NB164_181.out, NB181_164.out, NB165_181.out, NB181_165.out, NB173_181.out, NB181_173.out, blw⟩)
    ·skip
     refine box_step ?hg (N := 7) ?hd (cs := #[.float .f64 0, .float .f64 0]) (t := 36) ?hr ?_; (case hd => rfl); (case hg => rfl); (case hr => first | (go_simp; done) | (go_simp; rfl))
     intro gb181 hg w51 hbox hb
     have n0_ := Aside0.mk (blk_below (g := gb164) (o := .cells #[.float .f64 a0_0, .float .f64 a0_1] 35 (0, 0)) bkw hb)
     have n1_ := Aside0.mk (blk_below (g := gb165) (o := .cells #[.float .f64 a1_0, .float .f64 a1_1] 35 (0, 0)) bkw hb)
     have n2_ := Aside0.mk (blk_below (g := gb173) (o := .cells #[.float .f64 t170, .float .f64 t171] 36 (0, 0)) bkw hb)
     have n3_ := Aside0.mk (below_step blw hb)
     have n4_ := Aside0.mk (hbox)
     have n5_ := Aside0.mk ((by rw [hg]; exact (below_size blw) : w.heap.size ≤ gb181))
     have n6_ := Aside0.mk ((by rw [hg]; exact (below_size blw) : w.heap.size ≤ gb181))
     have n7_ := Aside0.mk ((by rw [hg]; exact Nat.ne_of_lt (blk_lt (g := gb164) (o := .cells #[.float .f64 a0_0, .float .f64 a0_1] 35 (0, 0)) bkw) : gb164 ≠ gb181))
     have n8_ := Aside0.mk ((by rw [hg]; exact Nat.ne_of_gt (blk_lt (g := gb164) (o := .cells #[.float .f64 a0_0, .float .f64 a0_1] 35 (0, 0)) bkw) : gb181 ≠ gb164))
     have n9_ := Aside0.mk ((by rw [hg]; exact Nat.ne_of_lt (blk_lt (g := gb165) (o := .cells #[.float .f64 a1_0, .float .f64 a1_1] 35 (0, 0)) bkw) : gb165 ≠ gb181))
     have n10_ := Aside0.mk ((by rw [hg]; exact Nat.ne_of_gt (blk_lt (g := gb165) (o := .cells #[.float .f64 a1_0, .float .f64 a1_1] 35 (0, 0)) bkw) : gb181 ≠ gb165))
     have n11_ := Aside0.mk ((by rw [hg]; exact Nat.ne_of_lt (blk_lt (g := gb173) (o := .cells #[.float .f64 t170, .float .f64 t171] 36 (0, 0)) bkw) : gb173 ≠ gb181))
     have n12_ := Aside0.mk ((by rw [hg]; exact Nat.ne_of_gt (blk_lt (g := gb173) (o := .cells #[.float .f64 t170, .float .f64 t171] 36 (0, 0)) bkw) : gb181 ≠ gb173))
     clear BK164
     clear BK165
     clear BK173
     clear HB
     have BK164 := n0_
     have BK165 := n1_
     have BK173 := n2_
     have HB := n3_
     have BK181 := n4_
     have GW181 := n5_
     have GE181 := n6_
     have NB164_181 := n7_
     have NB181_164 := n8_
     have NB165_181 := n9_
     have NB181_165 := n10_
     have NB173_181 := n11_
     have NB181_173 := n12_
     clear n0_ n1_ n2_ n3_ n4_ n5_ n6_ n7_ n8_ n9_ n10_ n11_ n12_
     clear hb hbox hg
     refine hK.out _ _ ⟨(blk_cell BK164.out 0).trans rfl, (blk_cell BK164.out 1).trans rfl, (blk_cell BK165.out 0).trans rfl, (blk_cell BK165.out 1).trans rfl⟩ (fun hHeld => ?_)
     clear hK K
     refine norm_ (a' := ?_) ?_ ?_
     rotate_left
     ·show Act.put _ (some 7) _ = _
      simp only [Act.put, sp1, sp2, sp3, i64_w, i32_w]
      rfl
     refine one_ (i := 1) (N := some 19) #[true, true, true, false, false, false, false, false, true, false, false] rfl rfl (one_of HT_.out (by kernel_rfl)) (by decide) (fun K hK => ?_)
     refine goes_ Try.func24 (by kernel_rfl) rfl #[.agg #[.float .f64 a0_0, .float .f64 a0_1]] (by rfl) rfl rfl (by (try simp only [List.map_toArray, List.map_cons, List.map_nil]); first | done | rfl | (simp only [List.length_drop, List.length_take]; rfl)) ?_
     with_reducible refine (laws_toTurn.calls a0_0 a0_1 t174 t175 _ A6.out).mono ?_
     rintro e w52 ⟨rfl, hb⟩
     refine ⟨_, rfl, ?_⟩
     have n0_ := Aside0.mk (blk_below (g := gb164) (o := .cells #[.float .f64 a0_0, .float .f64 a0_1] 35 (0, 0)) bkw hb)
     have n1_ := Aside0.mk (blk_below (g := gb165) (o := .cells #[.float .f64 a1_0, .float .f64 a1_1] 35 (0, 0)) bkw hb)
     have n2_ := Aside0.mk (blk_below (g := gb173) (o := .cells #[.float .f64 t170, .float .f64 t171] 36 (0, 0)) bkw hb)
     have n3_ := Aside0.mk (blk_below (g := gb181) (o := .cells #[.float .f64 0, .float .f64 0] 36 (0, 0)) bkw hb)
     have n4_ := Aside0.mk (below_step blw hb)
     clear BK164
     clear BK165
     clear BK173
     clear BK181
     clear HB
     have BK164 := n0_
     have BK165 := n1_
     have BK173 := n2_
     have BK181 := n3_
     have HB := n4_
     clear n0_ n1_ n2_ n3_ n4_
     (try clear hb)
     (try clear hb2)
     (try clear hk)
     (try clear hi)
     refine hK.out _ _ ⟨(blk_cell BK164.out 0).trans rfl, (blk_cell BK164.out 1).trans rfl, (blk_cell BK165.out 0).trans rfl, (blk_cell BK165.out 1).trans rfl⟩ (fun hHeld => ?_)
     clear hK K
     refine norm_ (a' := ?_) ?_ ?_
     rotate_left
     ·show Act.put _ (some 19) _ = _
      simp only [Act.put, sp1, sp2, sp3, i64_w, i32_w]
      rfl
     refine one_ (i := 3) (N := some 21) #[true, true, true, true, false, false, false, false, true, false, false] rfl rfl (one_of HT_.out (by kernel_rfl)) (by decide) (fun K hK => ?_)
     refine goes_ Try.func24 (by kernel_rfl) rfl #[.agg #[.float .f64 a1_0, .float .f64 a1_1]] (by rfl) rfl rfl (by (try simp only [List.map_toArray, List.map_cons, List.map_nil]); first | done | rfl | (simp only [List.length_drop, List.length_take]; rfl)) ?_
     with_reducible refine (laws_toTurn.calls a1_0 a1_1 t176 t177 _ A7.out).mono ?_
     rintro e w53 ⟨rfl, hb⟩
     refine ⟨_, rfl, ?_⟩
     have n0_ := Aside0.mk (blk_below (g := gb164) (o := .cells #[.float .f64 a0_0, .float .f64 a0_1] 35 (0, 0)) bkw hb)
     have n1_ := Aside0.mk (blk_below (g := gb165) (o := .cells #[.float .f64 a1_0, .float .f64 a1_1] 35 (0, 0)) bkw hb)
     have n2_ := Aside0.mk (blk_below (g := gb173) (o := .cells #[.float .f64 t170, .float .f64 t171] 36 (0, 0)) bkw hb)
     have n3_ := Aside0.mk (blk_below (g := gb181) (o := .cells #[.float .f64 0, .float .f64 0] 36 (0, 0)) bkw hb)
     have n4_ := Aside0.mk (below_step blw hb)
     clear BK164
     clear BK165
     clear BK173
     clear BK181
     clear HB
     have BK164 := n0_
     have BK165 := n1_
     have BK173 := n2_
     have BK181 := n3_
     have HB := n4_
     clear n0_ n1_ n2_ n3_ n4_
     (try clear hb)
     (try clear hb2)
     (try clear hk)
     (try clear hi)
     refine hK.out _ _ ⟨(blk_cell BK164.out 0).trans rfl, (blk_cell BK164.out 1).trans rfl, (blk_cell BK165.out 0).trans rfl, (blk_cell BK165.out 1).trans rfl⟩ (fun hHeld => ?_)
     clear hK K
     refine norm_ (a' := ?_) ?_ ?_
     rotate_left
     ·show Act.put _ (some 21) _ = _
      simp only [Act.put, sp1, sp2, sp3, i64_w, i32_w]
      rfl
     refine one_ (i := 4) (N := some 22) #[true, true, true, true, true, false, false, false, true, false, false] rfl rfl (one_of HT_.out (by kernel_rfl)) (by decide) (fun K hK => ?_)
     refine goes_ Try.func25 (by kernel_rfl) rfl #[.agg #[.float .f64 t174, .float .f64 t175], .agg #[.float .f64 t176, .float .f64 t177]] (by rfl) rfl rfl (by (try simp only [List.map_toArray, List.map_cons, List.map_nil]); first | done | rfl | (simp only [List.length_drop, List.length_take]; rfl)) ?_
     with_reducible refine (impl_MulTurn.calls k t174 t175 t176 t177 t178 t179 t180 _ A8.out).mono ?_
     rintro e w54 ⟨rfl, hb⟩
     refine ⟨_, rfl, ?_⟩
     have n0_ := Aside0.mk (blk_below (g := gb164) (o := .cells #[.float .f64 a0_0, .float .f64 a0_1] 35 (0, 0)) bkw hb)
     have n1_ := Aside0.mk (blk_below (g := gb165) (o := .cells #[.float .f64 a1_0, .float .f64 a1_1] 35 (0, 0)) bkw hb)
     have n2_ := Aside0.mk (blk_below (g := gb173) (o := .cells #[.float .f64 t170, .float .f64 t171] 36 (0, 0)) bkw hb)
     have n3_ := Aside0.mk (blk_below (g := gb181) (o := .cells #[.float .f64 0, .float .f64 0] 36 (0, 0)) bkw hb)
     have n4_ := Aside0.mk (below_step blw hb)
     clear BK164
     clear BK165
     clear BK173
     clear BK181
     clear HB
     have BK164 := n0_
     have BK165 := n1_
     have BK173 := n2_
     have BK181 := n3_
     have HB := n4_
     clear n0_ n1_ n2_ n3_ n4_
     (try clear hb)
     (try clear hb2)
     (try clear hk)
     (try clear hi)
     refine hK.out _ _ ⟨(blk_cell BK164.out 0).trans rfl, (blk_cell BK164.out 1).trans rfl, (blk_cell BK165.out 0).trans rfl, (blk_cell BK165.out 1).trans rfl⟩ (fun hHeld => ?_)
     clear hK K
     refine norm_ (a' := ?_) ?_ ?_
     rotate_left
     ·show Act.put _ (some 22) _ = _
      simp only [Act.put, sp1, sp2, sp3, i64_w, i32_w]
      rfl
     refine pure_ (i := 5) (N := some 17) (v := ?_) (a' := ?_) #[true, true, true, true, true, true, false, false, true, false, false] rfl rfl (any_of HT_.out (by kernel_rfl)) (fun _ _ _ h => h) (Or.inl ⟨by rfl, ?_⟩) ?_ ?_
     rotate_left
     ·intro w'
      go_simp
      with_reducible rfl
     rotate_left
     ·simp only [Act.put, sp1, sp2, sp3, i64_w, i32_w]
      rfl
     refine pure_ (i := 6) (N := some 23) (v := ?_) (a' := ?_) #[true, true, true, true, true, true, true, false, true, false, false] rfl rfl (any_of HT_.out (by kernel_rfl)) (fun _ _ _ h => h) (Or.inl ⟨by rfl, ?_⟩) ?_ ?_
     rotate_left
     ·intro w'
      go_simp
      with_reducible rfl
     rotate_left
     ·simp only [Act.put, sp1, sp2, sp3, i64_w, i32_w]
      rfl
     refine pure_ (i := 7) (N := some 24) (v := ?_) (a' := ?_) #[true, true, true, true, true, true, true, true, true, false, false] rfl rfl (any_of HT_.out (by kernel_rfl)) (fun _ _ _ h => h) (Or.inl ⟨by rfl, ?_⟩) ?_ ?_
     rotate_left
     ·intro w'
      go_simp
      with_reducible rfl
     rotate_left
     ·simp only [Act.put, sp1, sp2, sp3, i64_w, i32_w]
      rfl
     exact norm_ (by simp only [putAll, Act.put, List.setIfInBounds_toArray, List.set_cons_zero, List.set_cons_succ]) (hCont (gb181) _ ⟨hHeld, bkw, bkw, bkw, bkw, GW181.out, GE181.out, NB164_181.out, NB181_164.out, NB165_181.out, NB181_165.out, NB173_181.out, NB181_173.out, blw⟩)
   rintro gb181 w55 ⟨hS_, h0_, h1_, h2_, h3_, h4_, h5_, h6_, h7_, h8_, h9_, h10_, h11_, h12_⟩
   have n0_ : Aside0 (w55.heap[gb164]? = some (.cells #[.float .f64 a0_0, .float .f64 a0_1] 35 (0, 0))) := ⟨h0_⟩
   have n1_ : Aside0 (w55.heap[gb165]? = some (.cells #[.float .f64 a1_0, .float .f64 a1_1] 35 (0, 0))) := ⟨h1_⟩
   have n2_ : Aside0 (w55.heap[gb173]? = some (.cells #[.float .f64 t170, .float .f64 t171] 36 (0, 0))) := ⟨h2_⟩
   have n3_ : Aside0 (w55.heap[gb181]? = some (.cells #[.float .f64 0, .float .f64 0] 36 (0, 0))) := ⟨h3_⟩
   have n4_ : Aside0 (w.heap.size ≤ gb181) := ⟨h4_⟩
   have n5_ : Aside0 (w.heap.size ≤ gb181) := ⟨h5_⟩
   have n6_ : Aside0 (gb164 ≠ gb181) := ⟨h6_⟩
   have n7_ : Aside0 (gb181 ≠ gb164) := ⟨h7_⟩
   have n8_ : Aside0 (gb165 ≠ gb181) := ⟨h8_⟩
   have n9_ : Aside0 (gb181 ≠ gb165) := ⟨h9_⟩
   have n10_ : Aside0 (gb173 ≠ gb181) := ⟨h10_⟩
   have n11_ : Aside0 (gb181 ≠ gb173) := ⟨h11_⟩
   have n12_ : Aside0 (Below w.heap.size w w55) := ⟨h12_⟩
   clear BK164
   clear BK165
   clear BK173
   clear HB
   clear h0_ h1_ h2_ h3_ h4_ h5_ h6_ h7_ h8_ h9_ h10_ h11_ h12_
   have BK164 := n0_
   have BK165 := n1_
   have BK173 := n2_
   have BK181 := n3_
   have GW181 := n4_
   have GE181 := n5_
   have NB164_181 := n6_
   have NB181_164 := n7_
   have NB165_181 := n8_
   have NB181_165 := n9_
   have NB173_181 := n10_
   have NB181_173 := n11_
   have HB := n12_
   clear n0_ n1_ n2_ n3_ n4_ n5_ n6_ n7_ n8_ n9_ n10_ n11_ n12_
   have hHeld : w55.cell? ⟨gb164, 0, none⟩ = some (.float .f64 a0_0) ∧ w55.cell? ⟨gb164, 1, none⟩ = some (.float .f64 a0_1) ∧ w55.cell? ⟨gb165, 0, none⟩ = some (.float .f64 a1_0) ∧ w55.cell? ⟨gb165, 1, none⟩ = some (.float .f64 a1_1) := hS_
   refine norm_ (a' := ?_) ?_ ?_
   rotate_left
   ·simp only [putAll, Act.put, List.setIfInBounds_toArray, List.set_cons_zero, List.set_cons_succ]
    rfl
   refine one_ (i := 9) (N := none) #[true, true, true, true, true, true, true, true, true, true, false] rfl rfl (one_of HT_.out (by kernel_rfl)) (by decide) (fun K hK => ?_)
   have hs56 : w55.cell? ⟨gb181, 0, none⟩ = some (.float .f64 0) := (blk_cell BK181.out 0).trans rfl
   have hfs56 := blk_frozen BK181.out 0
   have hns56_0 := NB164_181.out
   have hns56_1 := NB165_181.out
   have hns56_2 := NB173_181.out
   have hms56_0 := NB181_164.out
   have hms56_1 := NB181_165.out
   have hms56_2 := NB181_173.out
   have hs57 : w55.cell? ⟨gb181, 1, none⟩ = some (.float .f64 0) := (blk_cell BK181.out 1).trans rfl
   have hfs57 := blk_frozen BK181.out 1
   have hns57_0 := NB164_181.out
   have hns57_1 := NB165_181.out
   have hns57_2 := NB173_181.out
   have hms57_0 := NB181_164.out
   have hms57_1 := NB181_165.out
   have hms57_2 := NB181_173.out
   refine skip_ (w1 := ?_) (by rfl) rfl ?_ ?_
   rotate_left
   ·go_simp
    rfl
   refine hK.out _ _ ⟨((cell_far (p := ⟨gb181, _, none⟩) NB164_181.out _).trans (((cell_far (p := ⟨gb181, _, none⟩) NB164_181.out _).trans (hHeld.1)))), ((cell_far (p := ⟨gb181, _, none⟩) NB164_181.out _).trans (((cell_far (p := ⟨gb181, _, none⟩) NB164_181.out _).trans (hHeld.2.1)))), ((cell_far (p := ⟨gb181, _, none⟩) NB165_181.out _).trans (((cell_far (p := ⟨gb181, _, none⟩) NB165_181.out _).trans (hHeld.2.2.1)))), ((cell_far (p := ⟨gb181, _, none⟩) NB165_181.out _).trans (((cell_far (p := ⟨gb181, _, none⟩) NB165_181.out _).trans (hHeld.2.2.2))))⟩ (fun hHeld => ?_)
   clear hK K
   refine pure_ (i := 10) (N := some 8) (v := ?_) (a' := ?_) #[true, true, true, true, true, true, true, true, true, true, true] rfl rfl (any_of HT_.out (by kernel_rfl)) (fun _ _ _ h => h) (Or.inl ⟨by rfl, ?_⟩) ?_ ?_
   rotate_left
   ·intro w'
    go_simp
    with_reducible rfl
   rotate_left
   ·simp only [Act.put, sp1, sp2, sp3, i64_w, i32_w]
    rfl
   refine done_ (done_of HT_.out (by kernel_rfl)) ?_
   have hnb58 := NB181_164.out
   have hnc58 := NB164_181.out
   have hnb59 := NB181_165.out
   have hnc59 := NB165_181.out
   have hnb60 := NB181_173.out
   have hnc60 := NB173_181.out
   have hcz61_0 : w55.cell? ⟨gb181, 0, none⟩ = some (.float .f64 0) := (blk_cell BK181.out 0).trans rfl
   have hcz61_1 : w55.cell? ⟨gb181, 1, none⟩ = some (.float .f64 0) := (blk_cell BK181.out 1).trans rfl
   have hfz61_0 := blk_frozen BK181.out 0
   have hfz61_1 := blk_frozen BK181.out 1
   have hnb62 := NB173_164.out
   have hnc62 := NB164_173.out
   have hnb63 := NB173_165.out
   have hnc63 := NB165_173.out
   have hcz64_0 : w55.cell? ⟨gb173, 0, none⟩ = some (.float .f64 t170) := (blk_cell BK173.out 0).trans rfl
   have hcz64_1 : w55.cell? ⟨gb173, 1, none⟩ = some (.float .f64 t171) := (blk_cell BK173.out 1).trans rfl
   have hfz64_0 := blk_frozen BK173.out 0
   have hfz64_1 := blk_frozen BK173.out 1
   try go_wp2_with (first | ((with_reducible refine gate_callee (f := 26) rfl ?_); refine goesL_ (some 27) rfl rfl Try.func26 (by kernel_rfl) rfl #[.agg #[.float .f64 t178, .float .f64 t179], .agg #[.float .f64 t170, .float .f64 t171]] rfl (by (try simp only [List.map_toArray, List.map_cons, List.map_nil]); first | done | rfl | (simp only [List.length_drop, List.length_take]; rfl)) ?_; (with_reducible refine (laws_eqTurn.calls t178 t179 t170 t171 true _ A9.out).mono ?_); rintro e w65 ⟨rfl, hb⟩; refine ⟨_, rfl, ?_⟩; have n0_ := Aside0.mk (blk_below (g := gb164) (o := .cells #[.float .f64 a0_0, .float .f64 a0_1] 35 (0, 0)) (by (with_reducible repeat (first | refine blk_drewN ?_ _ | refine blk_drew ?_ | refine blk_alloc ?_ _)); refine blk_far ?_ NB164_181.out _; (with_reducible repeat (first | refine blk_drewN ?_ _ | refine blk_drew ?_ | refine blk_alloc ?_ _)); refine blk_far ?_ NB164_181.out _; (with_reducible repeat (first | refine blk_drewN ?_ _ | refine blk_drew ?_ | refine blk_alloc ?_ _)); exact BK164.out) hb); have n1_ := Aside0.mk (blk_below (g := gb165) (o := .cells #[.float .f64 a1_0, .float .f64 a1_1] 35 (0, 0)) (by (with_reducible repeat (first | refine blk_drewN ?_ _ | refine blk_drew ?_ | refine blk_alloc ?_ _)); refine blk_far ?_ NB165_181.out _; (with_reducible repeat (first | refine blk_drewN ?_ _ | refine blk_drew ?_ | refine blk_alloc ?_ _)); refine blk_far ?_ NB165_181.out _; (with_reducible repeat (first | refine blk_drewN ?_ _ | refine blk_drew ?_ | refine blk_alloc ?_ _)); exact BK165.out) hb); have n2_ := Aside0.mk (blk_below (g := gb173) (o := .cells #[.float .f64 t170, .float .f64 t171] 36 (0, 0)) (by (with_reducible repeat (first | refine blk_drewN ?_ _ | refine blk_drew ?_ | refine blk_alloc ?_ _)); refine blk_far ?_ NB173_181.out _; (with_reducible repeat (first | refine blk_drewN ?_ _ | refine blk_drew ?_ | refine blk_alloc ?_ _)); refine blk_far ?_ NB173_181.out _; (with_reducible repeat (first | refine blk_drewN ?_ _ | refine blk_drew ?_ | refine blk_alloc ?_ _)); exact BK173.out) hb); have n3_ := Aside0.mk (blk_below (g := gb181) (o := .cells #[.float .f64 t178, .float .f64 t179] 36 (0, 0)) (by (with_reducible repeat (first | refine blk_drewN ?_ _ | refine blk_drew ?_ | refine blk_alloc ?_ _)); refine blk_put (cs := #[.float .f64 t178, .float .f64 0]) ?_ 1 _ rfl; (with_reducible repeat (first | refine blk_drewN ?_ _ | refine blk_drew ?_ | refine blk_alloc ?_ _)); refine blk_put (cs := #[.float .f64 0, .float .f64 0]) ?_ 0 _ rfl; (with_reducible repeat (first | refine blk_drewN ?_ _ | refine blk_drew ?_ | refine blk_alloc ?_ _)); exact BK181.out) hb); have n4_ := Aside0.mk (below_step blw hb); clear BK164; clear BK165; clear BK173; clear BK181; clear HB; have BK164 := n0_; have BK165 := n1_; have BK173 := n2_; have BK181 := n3_; have HB := n4_; clear n0_ n1_ n2_ n3_ n4_; (try clear hb); (try clear hb2); (try clear hk); (try clear hi)))
   go_ret
   exact ⟨by first | rfl | (simp [errW_none, errW_some] <;> rfl) | (simp [*, errW_none, errW_some] <;> rfl), blw⟩
 ·replace c10 := Bool.eq_false_iff.mpr c10
  subst c10
  have H1 : (some false) = some r := by rw [if_neg (show ¬ (false = true) by decide)] at H; exact H
  subst hr_; cases H1

end Go.Proofs.Ytijmnkfmkpejmaa.PFnExactMulTurn
