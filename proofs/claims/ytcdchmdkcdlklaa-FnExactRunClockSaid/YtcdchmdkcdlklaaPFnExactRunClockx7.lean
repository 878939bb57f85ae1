/- The machine's side of a law, function by function: a Lean function with the Go function's answers and the proof that the Go code comes to them. No condition. Written by this session's program over the kit's print, this session's own contracts set in. -/
import Derived.Test.YtcdchmdkcdlklaaPFnExactRunClockx0
import Derived.Test.YtcdchmdkcdlklaaPFnExactRunClockx4
import Derived.Test.YtcdchmdkcdlklaaPFnExactRunClockx5
import Derived.Test.YtcdchmdkcdlklaaPFnExactRunClockx6
namespace Go.Proofs.Ytcdchmdkcdlklaa.PFnExactRunClock
open Go.RowKit Go.Proofs.YtcdchmdkcdlklaaW.PrintWords Go.Proofs.YtcdchmdkcdlklaaW.PrintLast Go.Proofs.YtcdchmdkcdlklaaW.PrintMore
attribute [local go_sem] max2_int min2_int max_two min_two max_three min_three max_four min_four   -- for this text's walks alone
set_option linter.unusedVariables false
set_option linter.unusedSimpArgs false

/-! ### impl_RunClock: function 10 -/
mutual
def impl_RunClock.j0 : Nat → Int → Bool → Int → List (S54) → Option (Int × (List (S54)) × (List (S56)) × Bool)
 | 0, _, _, _, _ => none
 | k + 1, x1, x22, x193000, x193001 => if x22 = true then (some (0, ([] : List (S54)), ([] : List (S56)), false)) else ((impl_Timer_30.f x193001).bind fun t196 => (impl_RunClock.l0 k x1 t196 (([] : List (S56)))))
def impl_RunClock.l0 : Nat → Int → List (S54) → List (S56) → Option (Int × (List (S54)) × (List (S56)) × Bool)
 | 0, _, _, _ => none
 | k + 1, x1, x7, x8 => impl_RunClock.l1 k x1 x7 x8 (-1) x7 (x7.length : Int) 0
def impl_RunClock.l1 : Nat → Int → List (S54) → List (S56) → Int → List (S54) → Int → Int → Option (Int × (List (S54)) × (List (S56)) × Bool)
 | 0, _, _, _, _, _, _, _ => none
 | k + 1, x1, x7, x8, x9, x28, x29, x30 => if x30 < x29 then (if 0 ≤ x30 then (if x30 < (x28.length : Int) then (if ((rd_T54 x28 x30).f1) ≤ x1 then (if x9 < 0 then (impl_RunClock.l1 k x1 x7 x8 x30 x28 x29 (wrap64 (x30 + 1))) else (if 0 ≤ x9 then (if x9 < (x7.length : Int) then (if ((rd_T54 x28 x30).f1) < ((rd_T54 x7 x9).f1) then (impl_RunClock.l1 k x1 x7 x8 x30 x28 x29 (wrap64 (x30 + 1))) else (impl_RunClock.l1 k x1 x7 x8 x9 x28 x29 (wrap64 (x30 + 1)))) else (none)) else (none))) else (impl_RunClock.l1 k x1 x7 x8 x9 x28 x29 (wrap64 (x30 + 1)))) else (none)) else (none)) else (if x9 < 0 then (some (x1, x7, x8, true)) else (if 0 ≤ x9 then (if x9 < (x7.length : Int) then (if x8.length < 8796093022208 then ((some (x8 ++ [(⟨(rd_T54 x7 x9).f1, (rd_T54 x7 x9).f0⟩ : S56)] : List (S56))).bind fun y208 => (if (y208.length : Int) > 2000 then (some (0, ([] : List (S54)), ([] : List (S56)), false)) else (if ((rd_T54 x7 x9).f2) > 0 then (if ((rd_T54 x7 x9).f3) > 1 then ((some (x7.set (x9 : Int).toNat (⟨(rd_T54 x7 x9).f0, (rd_T54 x7 x9).f1, (rd_T54 x7 x9).f2, wrap64 (((rd_T54 x7 x9).f3) - 1)⟩ : S54) : List (S54))).bind fun y214 => (impl_RunClock.l0 k x1 (y214.set (x9 : Int).toNat (⟨(rd_T54 y214 x9).f0, wrap64 (((rd_T54 y214 x9).f1) + ((rd_T54 y214 x9).f2)), (rd_T54 y214 x9).f2, (rd_T54 y214 x9).f3⟩ : S54)) y208)) else (if x9 ≤ (x7.length : Int) then (if 0 ≤ (wrap64 (x9 + 1)) then (if (wrap64 (x9 + 1)) ≤ (x7.length : Int) then (impl_RunClock.l0 k x1 (x7.eraseIdx (x9 : Int).toNat) y208) else (none)) else (none)) else (none))) else (if x9 ≤ (x7.length : Int) then (if 0 ≤ (wrap64 (x9 + 1)) then (if (wrap64 (x9 + 1)) ≤ (x7.length : Int) then (impl_RunClock.l0 k x1 (x7.eraseIdx (x9 : Int).toNat) y208) else (none)) else (none)) else (none))))) else (none)) else (none)) else (none)))
end
def impl_RunClock.f (k : Nat) (a0_0 : Int) (l0_1 : List (S54)) (a1 : Int) : Option (Int × (List (S54)) × (List (S56)) × Bool) := (impl_GoodClock.f k a0_0 l0_1).bind fun t194 => (if t194 = true then ((impl_inRange.f a1 a0_0 100000).bind fun t195 => (impl_RunClock.j0 k a1 (!t195) a0_0 l0_1)) else (impl_RunClock.j0 k a1 true a0_0 l0_1))
theorem impl_RunClock.mono_l : ∀ k, (∀ y0 y1 y2 y3, LeO (impl_RunClock.j0 k y0 y1 y2 y3) (impl_RunClock.j0 (k + 1) y0 y1 y2 y3)) ∧ (∀ y0 y1 y2, LeO (impl_RunClock.l0 k y0 y1 y2) (impl_RunClock.l0 (k + 1) y0 y1 y2)) ∧ (∀ y0 y1 y2 y3 y4 y5 y6, LeO (impl_RunClock.l1 k y0 y1 y2 y3 y4 y5 y6) (impl_RunClock.l1 (k + 1) y0 y1 y2 y3 y4 y5 y6))
 | 0 => ⟨fun _ _ _ _ r h => by simp [impl_RunClock.j0] at h, fun _ _ _ r h => by simp [impl_RunClock.l0] at h, fun _ _ _ _ _ _ _ r h => by simp [impl_RunClock.l1] at h⟩
 | k + 1 => by
  obtain ⟨ih0, ih1, ih2⟩ := impl_RunClock.mono_l k
  refine ⟨?_, ?_, ?_⟩
  ·intro y0 y1 y2 y3
   unfold impl_RunClock.j0
   repeat' first
   | (with_reducible exact ih0 _ _ _ _)
   | (with_reducible exact ih1 _ _ _)
   | (with_reducible exact ih2 _ _ _ _ _ _ _)
   | (with_reducible exact impl_GoodClock.mono _ _ _)
   | (with_reducible exact LeO.refl _)
   | (with_reducible exact LeO.none _)
   | (with_reducible refine LeO.ite ?_ ?_)
   | (with_reducible refine LeO.bind ?_ (fun _ => ?_))
   | exact ih0 _ _ _ _
   | exact ih1 _ _ _
   | exact ih2 _ _ _ _ _ _ _
   | exact impl_GoodClock.mono _ _ _
   | exact LeO.none _
   | refine LeO.ite ?_ ?_
   | refine LeO.bind ?_ (fun _ => ?_)
  ·intro y0 y1 y2
   unfold impl_RunClock.l0
   repeat' first
   | (with_reducible exact ih0 _ _ _ _)
   | (with_reducible exact ih1 _ _ _)
   | (with_reducible exact ih2 _ _ _ _ _ _ _)
   | (with_reducible exact impl_GoodClock.mono _ _ _)
   | (with_reducible exact LeO.refl _)
   | (with_reducible exact LeO.none _)
   | (with_reducible refine LeO.ite ?_ ?_)
   | (with_reducible refine LeO.bind ?_ (fun _ => ?_))
   | exact ih0 _ _ _ _
   | exact ih1 _ _ _
   | exact ih2 _ _ _ _ _ _ _
   | exact impl_GoodClock.mono _ _ _
   | exact LeO.none _
   | refine LeO.ite ?_ ?_
   | refine LeO.bind ?_ (fun _ => ?_)
  ·intro y0 y1 y2 y3 y4 y5 y6
   unfold impl_RunClock.l1
   repeat' first
   | (with_reducible exact ih0 _ _ _ _)
   | (with_reducible exact ih1 _ _ _)
   | (with_reducible exact ih2 _ _ _ _ _ _ _)
   | (with_reducible exact impl_GoodClock.mono _ _ _)
   | (with_reducible exact LeO.refl _)
   | (with_reducible exact LeO.none _)
   | (with_reducible refine LeO.ite ?_ ?_)
   | (with_reducible refine LeO.bind ?_ (fun _ => ?_))
   | exact ih0 _ _ _ _
   | exact ih1 _ _ _
   | exact ih2 _ _ _ _ _ _ _
   | exact impl_GoodClock.mono _ _ _
   | exact LeO.none _
   | refine LeO.ite ?_ ?_
   | refine LeO.bind ?_ (fun _ => ?_)
theorem impl_RunClock.mono : ∀ a0 a1 a2 k, LeO (impl_RunClock.f k a0 a1 a2) (impl_RunClock.f (k + 1) a0 a1 a2) := by
 intro a0 a1 a2 k
 obtain ⟨ih0, ih1, ih2⟩ := impl_RunClock.mono_l k
 unfold impl_RunClock.f
 repeat' first
   | (with_reducible exact ih0 _ _ _ _)
   | (with_reducible exact ih1 _ _ _)
   | (with_reducible exact ih2 _ _ _ _ _ _ _)
   | (with_reducible exact impl_GoodClock.mono _ _ _)
   | (with_reducible exact LeO.refl _)
   | (with_reducible exact LeO.none _)
   | (with_reducible refine LeO.ite ?_ ?_)
   | (with_reducible refine LeO.bind ?_ (fun _ => ?_))
   | exact ih0 _ _ _ _
   | exact ih1 _ _ _
   | exact ih2 _ _ _ _ _ _ _
   | exact impl_GoodClock.mono _ _ _
   | exact LeO.none _
   | refine LeO.ite ?_ ?_
   | refine LeO.bind ?_ (fun _ => ?_)
def impl_RunClock.T8 : Bool × List (List Nat × List Nat) := (true, [([], []), ([0], [0]), ([], []), ([1, 2], [1, 2]), ([3], [3]), ([4], [4]), ([5, 4], [4, 5]), ([6, 4, 4], [4, 6]), ([7], [7]), ([8, 7], [7, 8]), ([7], [7]), ([7], [7]), ([10, 11, 7], [7, 10, 11]), ([12, 7], [7, 12]), ([13, 7], [7, 13]), ([9, 14, 7], [7, 9, 14]), ([7, 15, 4], [4, 7, 15]), ([4, 16], [4, 16])])
def impl_RunClock.B8 : List Nat := [0, 1, 0, 7, 15, 31, 63, 127, 255, 511, 255, 255, 3327, 7423, 15615, 32767, 65535, 131071]
theorem impl_RunClock.tab8 : rtab .any (opsOf Try.f10 8) = impl_RunClock.T8 := by kernel_rfl
theorem impl_RunClock.bits8 : waitsOk impl_RunClock.T8.2 impl_RunClock.B8 = true := by kernel_rfl
def impl_RunClock.T14 : Bool × List (List Nat × List Nat) := (true, [([], []), ([], []), ([1], [1]), ([2], [2]), ([3], [3]), ([], []), ([5], [5]), ([6], [6]), ([7], [7]), ([4, 8], [4, 8]), ([9], [9]), ([0, 10], [0, 10]), ([11, 11, 0, 1, 2, 3, 4, 5, 6, 7, 8, 9, 10, 11], [0, 11])])
def impl_RunClock.B14 : List Nat := [0, 0, 2, 6, 14, 0, 32, 96, 224, 510, 1022, 2047, 4095]
theorem impl_RunClock.tab14 : rtab .any (opsOf Try.f10 14) = impl_RunClock.T14 := by kernel_rfl
theorem impl_RunClock.bits14 : waitsOk impl_RunClock.T14.2 impl_RunClock.B14 = true := by kernel_rfl
def impl_RunClock.T19 : Bool × List (List Nat × List Nat) := (true, [([], []), ([0], [0]), ([1], [1]), ([2], [2]), ([], []), ([4], [4]), ([5], [5]), ([6], [6]), ([3, 7], [3, 7]), ([0, 0, 1, 2, 3, 4, 5, 6, 7, 8], [0]), ([9, 0, 1, 2, 3, 4, 5, 6, 7, 8], [9]), ([10, 8, 0, 1, 2, 3, 4, 5, 6, 7, 8], [8, 10])])
def impl_RunClock.B19 : List Nat := [0, 1, 3, 7, 0, 16, 48, 112, 255, 511, 1023, 2047]
theorem impl_RunClock.tab19 : rtab .any (opsOf Try.f10 19) = impl_RunClock.T19 := by kernel_rfl
theorem impl_RunClock.bits19 : waitsOk impl_RunClock.T19.2 impl_RunClock.B19 = true := by kernel_rfl
/-! #### slices.Delete at one place of a row of one's own: the row itself, shorter by one; its last place is laid to nought -/
def impl_RunClock.DT : Bool × List (List Nat × List Nat) := (true, [([], []), ([], []), ([0, 1], [0, 1]), ([], []), ([], []), ([3, 4], [3, 4]), ([2, 5], [2, 5]), ([6, 6, 0, 1, 2, 3, 4, 5, 6], [0, 3, 6])])
def impl_RunClock.DB : List Nat := [0, 0, 3, 0, 0, 24, 63, 127]
theorem impl_RunClock.dtab : rtab .any (opsOf Try.f31 5) = impl_RunClock.DT := by kernel_rfl
theorem impl_RunClock.dbits : waitsOk impl_RunClock.DT.2 impl_RunClock.DB = true := by kernel_rfl
theorem impl_RunClock.beyond {α : Type} (d : Kd α) {W : World} {base : Nat} {e : TypeId} {g n c : Nat} {xs : List α} {ok : Nat → Prop} (HO : d.R e W base ok (.slice (some ⟨g, 0, none⟩) n c) xs) (news : List Value) (hl : n * d.sz + news.length ≤ c * d.sz) :
  d.R e (W.setCells g (n * d.sz) news) base ok (.slice (some ⟨g, 0, none⟩) n c) xs ∧ W.grownBy (W.setCells g (n * d.sz) news) (some g) := by
 obtain ⟨hn, hnc, _⟩ := Kd.R_reads' HO
 obtain ⟨hok, inner, hown, hr⟩ := HO
 have hin : inner.length = n * d.sz := by rw [hr.1, hn]
 obtain ⟨s1, s2, s3, s4⟩ := setCells_same g news (n * d.sz) W
 have hfar : ∀ k', k' ≠ g → (W.setCells g (n * d.sz) news).heap[k']? = W.heap[k']? := fun k' hk' => setCells_far news _ k' hk'
 have hgo : ∀ m, some g = (Value.slice (some ⟨g, 0, none⟩) m c).ownBlock := fun m => by simp [Value.ownBlock]
 rcases hown.2 with ⟨hv, _⟩ | ⟨g', cap', cur, hv, hb, hh, _, hcm, hcs, htake⟩
 ·cases hv
 injection hv with ha hen hc
 clear hen
 injection ha with ha
 injection ha with hg
 subst hg; subst hc
 rw [← hn] at htake
 obtain ⟨cur', h3, h4, h5⟩ := setCells_row news (n * d.sz) W cur hh (by rw [hcs]; exact hl)
 refine ⟨⟨hok, inner, ⟨hown.1, .inr ⟨g, c, cur', by rw [← hn], hb, h3, by omega, hcm, by rw [h4, hcs], ?_⟩⟩, ?_⟩, ⟨s1, s2, s3, by rw [s4]; exact Nat.le_refl _, fun k' _ hk' => hfar k' (fun he => hk' (by rw [he]))⟩⟩
 ·have hcl : n * d.sz ≤ cur.toList.length := by rw [Array.length_toList, hcs]; omega
  rw [← hn, h5, List.append_assoc, List.take_append_of_le_length (by rw [List.length_take]; omega), List.take_take, Nat.min_self]
  exact htake
 ·have hmv : ∀ p q, d.M W base (fun k' => ok k' ∧ some k' ≠ (Value.slice (some ⟨g, 0, none⟩) n c).ownBlock) p q → d.M (W.setCells g (n * d.sz) news) base (fun k' => ok k' ∧ some k' ≠ (Value.slice (some ⟨g, 0, none⟩) n c).ownBlock) p q := fun p q hp =>
   d.M_move (fun k' hk' => hfar k' (fun he => hk'.2 (by rw [← hgo, he]))) hp
  exact hr.imp_ hmv
theorem impl_RunClock.clear1 {P : Program} (w : World) (t e ty : TypeId) (z : Value) (ht : P.underlying t = some (.slice e)) (hv : ∀ w, (zeroValue e).run P w = .ok z w) (news : List Value) (hz : (Builtin.zeroCells z.cells 1).toList = news) (h1 : ∀ v ∈ news, v.oneCell' = true) (b o c : Nat)
  (hc : ∀ j, j < news.length → (w.cell? ⟨b, o + j, none⟩).isSome = true) (hf : ∀ j, j < news.length → w.frozen? ⟨b, o + j, none⟩ = false) :
  (Builtin.clear_ #[t] ty #[.slice (some ⟨b, o, none⟩) 1 c]).run P w = .ok (.tuple #[]) (w.setCells b o news) := by
 have hst := run_storeCells_cells (P := P) b o news 0 w (by simpa using hc) (by simpa using hf) h1
 simp only [Nat.add_zero] at hst
 simp [Builtin.clear_, run_underlying ht, hv, hz, hst]
set_option maxHeartbeats 8000000 in
set_option maxRecDepth 100000 in
theorem impl_RunClock.del {base g c : Nat} {xs : List S54} {ok : Nat → Prop} {i j : Int} {w0 W : World} (h0 : 0 ≤ i) (h1 : i < (xs.length : Int)) (hj : j = i + 1) (HO : Kd.R k54 54 W base ok (.slice (some ⟨g, 0, none⟩) xs.length c) xs) (hB : Below base w0 W) (hb : base ≤ W.heap.size) :
  Calls Try.prog 31 #[.slice (some ⟨g, 0, none⟩) xs.length c, .int .i64 i, .int .i64 j] W fun e w1 => e = .returned (.slice (some ⟨g, 0, none⟩) (xs.length - 1) c) ∧ Kd.R k54 54 w1 base ok (.slice (some ⟨g, 0, none⟩) (xs.length - 1) c) (xs.eraseIdx i.toNat) ∧ Below base w0 w1 ∧ W.drew.grownBy w1 (some g) := by
 obtain ⟨-, hnc, -⟩ := Kd.R_reads' HO
 obtain ⟨i0, hi0, _, hsz, _⟩ := info_parts info54
 have q0 : 0 ≤ j := by omega
 have q1 : i ≤ j := by omega
 have q2 : j ≤ (xs.length : Int) := by omega
 have q3 : (xs.length : Int) ≤ (c : Int) := by omega
 have q4 : decide (i = j) = false := decide_eq_false (by omega)
 have q5 : (i == j) = false := beq_eq_false_iff_ne.2 (by omega)
 have q6 : i ≤ (xs.length : Int) := by omega
 have q7 : i ≤ (c : Int) := by omega
 have hji : j.toNat = i.toNat + 1 := by omega
 have hcutA := cut_to (P := Try.prog) 29 54 .i64 Try.underlying29 hi0 (some ⟨g, 0, none⟩) xs.length c i h0 q6 hnc
 have hcutB := cut_from (P := Try.prog) 29 54 .i64 Try.underlying29 hi0 4 hsz (some ⟨g, 0, none⟩) xs.length c j q0 q2
 obtain ⟨AB, hAB⟩ : ∃ A1, A1 = (if c = j.toNat then (some ⟨g, 0, none⟩ : Option Addr) else (some (⟨g, 0, none⟩ : Addr)).map (·.add (j.toNat * 4))) := ⟨_, rfl⟩
 rw [← hAB] at hcutB
 have KA := Aside0.mk hAB
 clear hAB
 have hcutC : ∀ w : World, (Instr.slice 29 (.slice (some ⟨g, 0, none⟩) (xs.length - 1) c) (some (.int .i64 ((xs.length - 1 : Nat) : Int))) (some (.int .i64 (xs.length : Int))) none).run Try.prog w = .ok (.slice (some ⟨g, (xs.length - 1) * 4, none⟩) 1 (c - (xs.length - 1))) w := by
  intro w
  have hel : Try.prog.elem 29 = 54 := by simp [Program.elem, Try.underlying29]
  have hu : Try.prog.underlying 29 = some (.slice (Try.prog.elem 29)) := by rw [hel]; exact Try.underlying29
  rw [run_slice_lh w 29 (some ⟨g, 0, none⟩) (xs.length - 1) c hu .i64 .i64 ((xs.length - 1 : Nat) : Int) (xs.length : Int) (by omega) (by omega) (by omega), hel]
  have e0 : ¬ c = xs.length - 1 := by omega
  have e1 : xs.length - (xs.length - 1) = 1 := by omega
  simp [sizeOf, typeInfo, hi0, hsz, sliced, Result.andThen, Addr.add, e0, e1]
  exact fun h => h.symm
 have HR := Aside0.mk (Kd.R_drew HO)
 have HB := Aside0.mk (below_drew1 hB)
 have HS := Aside0.mk (show base ≤ W.drew.heap.size from hb)
 clear HO hB hb hj
 go_enter Try.func31, Try.ntmps31
 go_wp2
 refine start_ (n := 8) (S := fun w' => True) (ds := []) #[false, false, false, false, false, false, false, false] (by kernel_rfl) rfl rfl trivial (fun hHeld => ?_); refine with_tabW impl_RunClock.dtab impl_RunClock.dbits (fun HT_ HW_ => ?_)
 generalize hwd : W.drew = wd at HR HB HS hHeld ⊢
 refine pure_ (i := 0) (N := some 20) (v := ?_) (a' := ?_) #[true, false, false, false, false, false, false, false] rfl rfl (any_of HT_.out (by kernel_rfl)) (fun _ _ _ h => h) (Or.inl ⟨by rfl, ?_⟩) ?_ ?_
 rotate_left; (· (intro w'; go_simp; with_reducible rfl)); rotate_left; (· (simp only [Act.put, sp1, sp2, sp3, i64_w, i32_w]; rfl))
 refine pure_ (i := 1) (N := some 21) (v := ?_) (a' := ?_) #[true, true, false, false, false, false, false, false] rfl rfl (any_of HT_.out (by kernel_rfl)) (fun _ _ _ h => h) (Or.inl ⟨by rfl, ?_⟩) ?_ ?_
 rotate_left; (· (intro w'; go_simp; with_reducible rfl)); rotate_left; (· (simp only [Act.put, sp1, sp2, sp3, i64_w, i32_w]; rfl))
 refine pure_ (i := 2) (N := some 22) (v := ?_) (a' := ?_) #[true, true, true, false, false, false, false, false] rfl rfl (any_of HT_.out (by kernel_rfl)) (fun _ _ _ h => h) (Or.inl ⟨by rfl, ?_⟩) ?_ ?_
 rotate_left; (· (intro w'; go_simp; with_reducible rfl)); rotate_left; (· (simp only [Act.put, sp1, sp2, sp3, i64_w, i32_w]; rfl))
 refine pure_ (i := 3) (N := some 23) (v := ?_) (a' := ?_) #[true, true, true, true, false, false, false, false] rfl rfl (any_of HT_.out (by kernel_rfl)) (fun _ _ _ h => h) (Or.inl ⟨by rfl, ?_⟩) ?_ ?_
 rotate_left; (· (intro w'; go_simp; with_reducible rfl)); rotate_left; (· (simp only [Act.put, sp1, sp2, sp3, i64_w, i32_w]; rfl))
 refine pure_ (i := 4) (N := some 24) (v := ?_) (a' := ?_) #[true, true, true, true, true, false, false, false] rfl rfl (any_of HT_.out (by kernel_rfl)) (fun _ _ _ h => h) (Or.inl ⟨by rfl, ?_⟩) ?_ ?_
 rotate_left; (· (intro w'; go_simp; with_reducible rfl)); rotate_left; (· (simp only [Act.put, sp1, sp2, sp3, i64_w, i32_w]; rfl))
 refine pure_ (i := 5) (N := some 25) (v := ?_) (a' := ?_) #[true, true, true, true, true, true, false, false] rfl rfl (any_of HT_.out (by kernel_rfl)) (fun _ _ _ h => h) (Or.inl ⟨by rfl, ?_⟩) ?_ ?_
 rotate_left; (· (intro w'; go_simp; with_reducible rfl)); rotate_left; (· (simp only [Act.put, sp1, sp2, sp3, i64_w, i32_w]; rfl))
 refine one_ (i := 6) (N := some 26) #[true, true, true, true, true, true, true, false] rfl rfl (one_of HT_.out (by kernel_rfl)) (by decide) (fun K hK => ?_)
 refine Kd.R_delete_step k54 (w0 := w0) base (by rfl) (.tmp 22) (.tmp 25) 29 54 rfl Try.underlying29 (by kernel_rfl) (g := g) (n := xs.length) (c := c) (k := i.toNat) rfl rfl ?hA ?hm HR.out ?hk HB.out HS.out ?_
 (case hA => have ha_ := KA.out; rw [hji] at ha_; exact ha_)
 (case hm => omega)
 (case hk => omega)
 intro w2 ho hb hg
 have HO2 := Aside0.mk ho
 have HB2 := Aside0.mk hb
 have HG2 := Aside0.mk hg
 clear ho hb hg HR HB
 refine hK.out _ _ trivial (fun hHeld => ?_)
 clear hK K
 refine norm_ (a' := ?_) ?_ ?_
 rotate_left
 ·show Act.put _ (some 26) _ = _
  simp only [Act.put, sp1, sp2, sp3, i64_w, i32_w]
  rfl
 refine pure_ (i := 7) (N := some 0) (v := ?_) (a' := ?_) #[true, true, true, true, true, true, true, true] rfl rfl (any_of HT_.out (by kernel_rfl)) (fun _ _ _ h => h) (Or.inl ⟨by rfl, ?_⟩) ?_ ?_
 rotate_left; (· (intro w'; go_simp; with_reducible rfl)); rotate_left; (· (simp only [Act.put, sp1, sp2, sp3, i64_w, i32_w]; rfl))
 refine done_ (done_of HT_.out (by kernel_rfl)) ?_
 obtain ⟨_, _, hown, _⟩ := HO2.out
 rcases hown.2 with ⟨hv, _⟩ | ⟨g', cap', cur, hv, hgb, hh, _, hcm, hcs, _⟩
 ·cases hv
 injection hv with ha hen hc
 clear hen
 injection ha with ha
 injection ha with hg
 subst hg; subst hc
 have hz : ∀ w : World, (zeroValue 54).run Try.prog w = .ok (.agg #[(.int .i64 0), (.int .i64 0), (.int .i64 0), (.int .i64 0)]) w := fun w => by kernel_rfl
 have hcl : ∀ ty, (Builtin.clear_ #[29] ty #[.slice (some ⟨g, (xs.length - 1) * 4, none⟩) 1 (c - (xs.length - 1))]).run Try.prog w2 = .ok (.tuple #[]) (w2.setCells g ((xs.length - 1) * 4) [(.int .i64 0), (.int .i64 0), (.int .i64 0), (.int .i64 0)]) := fun ty => impl_RunClock.clear1 w2 29 54 ty _ Try.underlying29 hz [(.int .i64 0), (.int .i64 0), (.int .i64 0), (.int .i64 0)] (by kernel_rfl) (by simp [Value.oneCell']) g _ _ (fun t ht => by
  have ht4 : t < 4 := ht
  rw [blk_cell hh, Array.getElem?_eq_getElem (show (xs.length - 1) * 4 + t < cur.size by rw [hcs]; show _ < c * 4; omega)]; rfl) (fun t ht => blk_frozen hh _)
 have HF := Aside0.mk (impl_RunClock.beyond k54 HO2.out [(.int .i64 0), (.int .i64 0), (.int .i64 0), (.int .i64 0)] (show (xs.length - 1) * 4 + 4 ≤ c * 4 by omega))
 clear hown hh hcm hcs
 go_wp2
 go_ret
 exact ⟨rfl, HF.out.1, HB2.out.grown HF.out.2 (Nat.le_trans HS.out HG2.out.size) (fun k hk => by injection hk with hk; subst hk; exact hgb), ⟨HF.out.2.os.trans HG2.out.os, HF.out.2.tape.trans HG2.out.tape, HF.out.2.output.trans HG2.out.output, Nat.le_trans HG2.out.size HF.out.2.size, fun k h1 h2 => (HF.out.2.block k (Nat.lt_of_lt_of_le h1 HG2.out.size) h2).trans (HG2.out.block k h1 h2)⟩⟩
set_option maxHeartbeats 8000000 in
set_option maxRecDepth 100000 in
theorem impl_RunClock.calls (k : Nat) (a0_0 : Int) (A0_1 : Option Addr) (c0_1 : Nat) (l0_1 : List (S54)) (a1 : Int) (r1 : Int) (r2 : List (S54)) (r3 : List (S56)) (r4 : Bool) (w : World) (hr0_1 : Kd.C k54 w A0_1 l0_1.length l0_1) (hc0_1 : l0_1.length ≤ c0_1) (h : impl_RunClock.f k a0_0 l0_1 a1 = some (r1, r2, r3, r4)) :
  Calls Try.prog 10 #[.agg #[.int .i64 a0_0, .slice A0_1 l0_1.length c0_1], .int .i64 a1] w fun e w' => ∃ v1_ v2_ : Value, e = .returned (.tuple #[.agg #[.int .i64 r1, v1_], v2_, .bool r4]) ∧ Kd.R k54 54 w' w.heap.size (fun _ => True) v1_ r2 ∧ Kd.R k56 56 w' w.heap.size (fun _ => True) v2_ r3 ∧ Below w.heap.size w w' := by
 have hu31 := Try.underlying31
 have hu54 := Try.underlying54
 have hu56 := Try.underlying56
 have HR0_1 := Aside0.mk hr0_1
 have HC0_1 := Aside0.mk hc0_1
 clear hr0_1 hc0_1
 have HB := Aside0.mk (Below.refl w.heap.size w)
 have H : ((impl_GoodClock.f k a0_0 l0_1).bind fun t194 => (if t194 = true then ((impl_inRange.f a1 a0_0 100000).bind fun t195 => (impl_RunClock.j0 k a1 (!t195) a0_0 l0_1)) else (impl_RunClock.j0 k a1 true a0_0 l0_1))) = some (r1, r2, r3, r4) := h
 clear h
 have HC3 := Aside0.mk H
 clear H
 go_enter Try.func10, Try.ntmps10
 go_upto_region 1 with (first | ((with_reducible refine gate_dst (N := 2) rfl ?_); refine box_event ?hg (N := 2) ?hd (cs := #[.int .i64 a0_0, .slice A0_1 l0_1.length c0_1]) (t := 31) ?hr ?_; (case hd => rfl); (case hg => rfl); (case hr => first | (go_simp; done) | (go_simp; rfl)); intro gb192 hg w4 hbox hb; have n0_ := Aside0.mk (below_step blw hb); have n1_ := Aside0.mk (hbox); have n2_ := Aside0.mk ((by rw [hg]; exact (below_size blw) : w.heap.size ≤ gb192)); have n3_ := Aside0.mk ((by rw [hg]; exact (below_size blw) : w.heap.size ≤ gb192)); clear HB; have HB := n0_; have BK192 := n1_; have GW192 := n2_; have GE192 := n3_; clear n0_ n1_ n2_ n3_; clear hb hbox hg) | ((with_reducible refine gate_dst (N := 4) rfl ?_); refine box_event ?hg (N := 4) ?hd (cs := #[.int .i64 0, .slice none 0 0]) (t := 31) ?hr ?_; (case hd => rfl); (case hg => rfl); (case hr => first | (go_simp; done) | (go_simp; rfl)); intro gb193 hg w5 hbox hb; have n0_ := Aside0.mk (blk_below (g := gb192) (o := .cells #[.int .i64 a0_0, .slice A0_1 l0_1.length c0_1] 31 (0, 0)) bkw hb); have n1_ := Aside0.mk (below_step blw hb); have n2_ := Aside0.mk (hbox); have n3_ := Aside0.mk ((by rw [hg]; exact (below_size blw) : w.heap.size ≤ gb193)); have n4_ := Aside0.mk ((by rw [hg]; exact (below_size blw) : w.heap.size ≤ gb193)); have n5_ := Aside0.mk ((by rw [hg]; exact Nat.ne_of_lt (blk_lt (g := gb192) (o := .cells #[.int .i64 a0_0, .slice A0_1 l0_1.length c0_1] 31 (0, 0)) bkw) : gb192 ≠ gb193)); have n6_ := Aside0.mk ((by rw [hg]; exact Nat.ne_of_gt (blk_lt (g := gb192) (o := .cells #[.int .i64 a0_0, .slice A0_1 l0_1.length c0_1] 31 (0, 0)) bkw) : gb193 ≠ gb192)); clear BK192; clear HB; have BK192 := n0_; have HB := n1_; have BK193 := n2_; have GW193 := n3_; have GE193 := n4_; have NB192_193 := n5_; have NB193_192 := n6_; clear n0_ n1_ n2_ n3_ n4_ n5_ n6_; clear hb hbox hg))
 (try simp only [Act.put, List.setIfInBounds_toArray, List.set_cons_zero, List.set_cons_succ])
 go_cut [22] (fun v22 wc => ∃ (kq : Nat) (x22_2 : Bool), v22 = .bool x22_2 ∧ Aside0 (impl_RunClock.j0 kq a1 x22_2 a0_0 l0_1 = some (r1, r2, r3, r4)) ∧ Aside0 (kq ≤ k) ∧ Aside0 (wc.heap[gb192]? = some (.cells #[.int .i64 a0_0, (.slice A0_1 l0_1.length c0_1)] 31 (0, 0))) ∧ Aside0 (wc.heap[gb193]? = some (.cells #[.int .i64 0, (.slice none 0 0)] 31 (0, 0))) ∧ Aside0 (Below w.heap.size w wc))
 case first =>
  have H := HC3.out
  clear HC3
  replace H := Option.bind_eq_some_iff.mp H
  obtain ⟨t194, A60, H⟩ := H
  replace H : (if t194 = true then ((impl_inRange.f a1 a0_0 100000).bind fun t195 => (impl_RunClock.j0 k a1 (!t195) a0_0 l0_1)) else (impl_RunClock.j0 k a1 true a0_0 l0_1)) = some (r1, r2, r3, r4) := H
  have A6 := Aside0.mk A60
  clear A60
  by_cases c7 : t194 = true
  ·subst c7
   have H1 : ((impl_inRange.f a1 a0_0 100000).bind fun t195 => (impl_RunClock.j0 k a1 (!t195) a0_0 l0_1)) = some (r1, r2, r3, r4) := by rw [if_pos rfl] at H; exact H
   clear H
   have H := H1
   clear H1
   replace H := Option.bind_eq_some_iff.mp H
   obtain ⟨t195, A80, H⟩ := H
   replace H : (impl_RunClock.j0 k a1 (!t195) a0_0 l0_1) = some (r1, r2, r3, r4) := H
   have A8 := Aside0.mk A80
   clear A80
   have H' := Aside0.mk H
   clear H
   have hnb9 := NB192_193.out
   have hnc9 := NB193_192.out
   have hcz10_0 : w5.cell? ⟨gb192, 0, none⟩ = some (.int .i64 a0_0) := (blk_cell BK192.out 0).trans rfl
   have hcz10_1 : w5.cell? ⟨gb192, 1, none⟩ = some (.slice A0_1 l0_1.length c0_1) := (blk_cell BK192.out 1).trans rfl
   have hfz10_0 := blk_frozen BK192.out 0
   have hfz10_1 := blk_frozen BK192.out 1
   go_wp2_with (first | ((with_reducible refine gate_callee (f := 29) rfl ?_); refine goesL_ (some 14) rfl rfl Try.func29 (by kernel_rfl) rfl #[.agg #[.int .i64 a0_0, .slice A0_1 l0_1.length c0_1]] rfl (by (try simp only [List.map_toArray, List.map_cons, List.map_nil]); first | done | rfl | (simp only [List.length_drop, List.length_take]; rfl)) ?_; (with_reducible refine (impl_GoodClock.calls k a0_0 _ _ l0_1 true _ ?side1 ?side2 A6.out).mono ?_); (case side1 => repeat (first | exact (Kd.C_below HR0_1.out HB.out) | (with_reducible refine Kd.C_alloc ?_ _) | (with_reducible refine Kd.C_drewN ?_ _) | (with_reducible refine Kd.C_drew ?_))); (case side2 => exact HC0_1.out); rintro e w11 ⟨rfl, hb⟩; refine ⟨_, rfl, ?_⟩; have n0_ := Aside0.mk (blk_below (g := gb192) (o := .cells #[.int .i64 a0_0, .slice A0_1 l0_1.length c0_1] 31 (0, 0)) bkw hb); have n1_ := Aside0.mk (blk_below (g := gb193) (o := .cells #[.int .i64 0, .slice none 0 0] 31 (0, 0)) bkw hb); have n2_ := Aside0.mk (below_step blw hb); clear BK192; clear BK193; clear HB; have BK192 := n0_; have BK193 := n1_; have HB := n2_; clear n0_ n1_ n2_; (try clear hb); (try clear hb2); (try clear hk); (try clear hi); have hcz12_0 : w11.cell? ⟨gb192, 0, none⟩ = some (.int .i64 a0_0) := (blk_cell BK192.out 0).trans rfl; have hcz12_1 : w11.cell? ⟨gb192, 1, none⟩ = some (.slice A0_1 l0_1.length c0_1) := (blk_cell BK192.out 1).trans rfl; have hfz12_0 := blk_frozen BK192.out 0; have hfz12_1 := blk_frozen BK192.out 1) | (go_at_call 23; (with_reducible refine (impl_inRange.calls a1 a0_0 100000 t195 _ A8.out).mono ?_); rintro e w' ⟨rfl, ⟨nd, rfl⟩⟩))
   go_meet
   case rel => exact ⟨_, (!t195), (by first | rfl | (simp; done) | (simp [*]; done)), H', ⟨by first | omega | exact Nat.le_refl _⟩, ⟨by (with_reducible repeat (first | refine blk_drewN ?_ _ | refine blk_drew ?_ | refine blk_alloc ?_ _)); exact BK192.out⟩, ⟨by (with_reducible repeat (first | refine blk_drewN ?_ _ | refine blk_drew ?_ | refine blk_alloc ?_ _)); exact BK193.out⟩, ⟨blw⟩⟩
  ·replace c7 := Bool.eq_false_iff.mpr c7
   subst c7
   have H1 : (impl_RunClock.j0 k a1 true a0_0 l0_1) = some (r1, r2, r3, r4) := by rw [if_neg (show ¬ (false = true) by decide)] at H; exact H
   clear H
   have H := H1
   clear H1
   have H' := Aside0.mk H
   clear H
   have hnb13 := NB192_193.out
   have hnc13 := NB193_192.out
   have hcz14_0 : w5.cell? ⟨gb192, 0, none⟩ = some (.int .i64 a0_0) := (blk_cell BK192.out 0).trans rfl
   have hcz14_1 : w5.cell? ⟨gb192, 1, none⟩ = some (.slice A0_1 l0_1.length c0_1) := (blk_cell BK192.out 1).trans rfl
   have hfz14_0 := blk_frozen BK192.out 0
   have hfz14_1 := blk_frozen BK192.out 1
   go_wp2_with (first | ((with_reducible refine gate_callee (f := 29) rfl ?_); refine goesL_ (some 14) rfl rfl Try.func29 (by kernel_rfl) rfl #[.agg #[.int .i64 a0_0, .slice A0_1 l0_1.length c0_1]] rfl (by (try simp only [List.map_toArray, List.map_cons, List.map_nil]); first | done | rfl | (simp only [List.length_drop, List.length_take]; rfl)) ?_; (with_reducible refine (impl_GoodClock.calls k a0_0 _ _ l0_1 false _ ?side1 ?side2 A6.out).mono ?_); (case side1 => repeat (first | exact (Kd.C_below HR0_1.out HB.out) | (with_reducible refine Kd.C_alloc ?_ _) | (with_reducible refine Kd.C_drewN ?_ _) | (with_reducible refine Kd.C_drew ?_))); (case side2 => exact HC0_1.out); rintro e w15 ⟨rfl, hb⟩; refine ⟨_, rfl, ?_⟩; have n0_ := Aside0.mk (blk_below (g := gb192) (o := .cells #[.int .i64 a0_0, .slice A0_1 l0_1.length c0_1] 31 (0, 0)) bkw hb); have n1_ := Aside0.mk (blk_below (g := gb193) (o := .cells #[.int .i64 0, .slice none 0 0] 31 (0, 0)) bkw hb); have n2_ := Aside0.mk (below_step blw hb); clear BK192; clear BK193; clear HB; have BK192 := n0_; have BK193 := n1_; have HB := n2_; clear n0_ n1_ n2_; (try clear hb); (try clear hb2); (try clear hk); (try clear hi)))
   go_meet
   case rel => exact ⟨_, (true), (by first | rfl | (simp; done) | (simp [*]; done)), H', ⟨by first | omega | exact Nat.le_refl _⟩, ⟨by (with_reducible repeat (first | refine blk_drewN ?_ _ | refine blk_drew ?_ | refine blk_alloc ?_ _)); exact BK192.out⟩, ⟨by (with_reducible repeat (first | refine blk_drewN ?_ _ | refine blk_drew ?_ | refine blk_alloc ?_ _)); exact BK193.out⟩, ⟨blw⟩⟩
 case rest =>
  clear HC3
  try clear c1
  try clear c2
  try clear p2
  try clear c7
  try clear c9
  try clear c10
  try clear c13
  try clear hcz10_0
  try clear hcz10_1
  try clear hcz12_0
  try clear hcz12_1
  try clear hcz14_0
  try clear hcz14_1
  try clear hfz10_0
  try clear hfz10_1
  try clear hfz12_0
  try clear hfz12_1
  try clear hfz14_0
  try clear hfz14_1
  obtain ⟨kq, x22_2, rfl, HA, HJ2, BK192, BK193, HB⟩ := hcut
  cases kq with
  | zero => exact absurd HA.out (by simp [impl_RunClock.j0])
  | succ kj2 =>
   have H := HA.out
   clear HA
   simp only [impl_RunClock.j0] at H
   by_cases c16 : x22_2 = true
   ·subst c16
    have H1 : (some (0, ([] : List (S54)), ([] : List (S56)), false)) = some (r1, r2, r3, r4) := by rw [if_pos rfl] at H; exact H
    clear H
    have H := H1
    clear H1
    simp only [Option.some.injEq, Prod.mk.injEq] at H
    obtain ⟨rfl, rfl, rfl, rfl⟩ := H
    have hnb17 := NB193_192.out
    have hnc17 := NB192_193.out
    have hcz18_0 : wc.cell? ⟨gb193, 0, none⟩ = some (.int .i64 0) := (blk_cell BK193.out 0).trans rfl
    have hcz18_1 : wc.cell? ⟨gb193, 1, none⟩ = some (.slice none 0 0) := (blk_cell BK193.out 1).trans rfl
    have hfz18_0 := blk_frozen BK193.out 0
    have hfz18_1 := blk_frozen BK193.out 1
    go_wp2
    refine bodyPost_ret (results_ctt rfl _ _ gb193 31 #[.int .i64 0, .slice none 0 0] (0, 0) _ rfl (by (with_reducible repeat (first | refine blk_drewN ?_ _ | refine blk_drew ?_ | refine blk_alloc ?_ _)); refine blk_put (cs := #[.int .i64 0, .slice none 0 0]) ?_ 1 _ rfl; (with_reducible repeat (first | refine blk_drewN ?_ _ | refine blk_drew ?_ | refine blk_alloc ?_ _)); refine blk_put (cs := #[.int .i64 0, .slice none 0 0]) ?_ 0 _ rfl; (with_reducible repeat (first | refine blk_drewN ?_ _ | refine blk_drew ?_ | refine blk_alloc ?_ _)); exact BK193.out) Try.underlying31 rfl (by kernel_rfl)) rfl ?_
    exact ⟨_, _, by first | rfl | (simp [errW_none, errW_some] <;> rfl) | (simp [*, errW_none, errW_some] <;> rfl), by first | exact Kd.R_nil _ _ _ _ _ | exact Kd.N_nil _ _ _ _ _ | exact Kd.V_nil _ _ _ _ _ | exact Kd.Q_nil _ _ _ _ _ | exact Kd.S_nil _ _ _ _ _, by first | exact Kd.R_nil _ _ _ _ _ | exact Kd.N_nil _ _ _ _ _ | exact Kd.V_nil _ _ _ _ _ | exact Kd.Q_nil _ _ _ _ _ | exact Kd.S_nil _ _ _ _ _, blw⟩
   ·replace c16 := Bool.eq_false_iff.mpr c16
    subst c16
    have H1 : ((impl_Timer_30.f l0_1).bind fun t196 => (impl_RunClock.l0 kj2 a1 t196 (([] : List (S56))))) = some (r1, r2, r3, r4) := by rw [if_neg (show ¬ (false = true) by decide)] at H; exact H
    clear H
    have H := H1
    clear H1
    replace H := Option.bind_eq_some_iff.mp H
    obtain ⟨t196, A190, H⟩ := H
    replace H : (impl_RunClock.l0 kj2 a1 t196 (([] : List (S56)))) = some (r1, r2, r3, r4) := H
    have A19 := Aside0.mk A190
    clear A190
    obtain ⟨y199, hy199⟩ : ∃ y_ : List (S56), y_ = (([] : List (S56))) := ⟨_, rfl⟩
    replace H : (impl_RunClock.l0 kj2 a1 t196 y199) = some (r1, r2, r3, r4) := by first | (rw [hy199]; with_reducible exact H) | (have H2_ := (Option.bind_some _ _).symm.trans H; rw [hy199]; with_reducible exact H2_) | (have H2_ := (Option.bind_some _ _).symm.trans H; with_reducible exact H2_) | with_reducible exact H | (rw [hy199]; exact H) | exact H
    have Ny199 := Aside0.mk hy199
    clear hy199
    have H' := Aside0.mk H
    clear H
    have hnb20 := NB192_193.out
    have hnc20 := NB193_192.out
    have hcz21_0 : wc.cell? ⟨gb192, 0, none⟩ = some (.int .i64 a0_0) := (blk_cell BK192.out 0).trans rfl
    have hcz21_1 : wc.cell? ⟨gb192, 1, none⟩ = some (.slice A0_1 l0_1.length c0_1) := (blk_cell BK192.out 1).trans rfl
    have hfz21_0 := blk_frozen BK192.out 0
    have hfz21_1 := blk_frozen BK192.out 1
    go_wp2_with (first | ((with_reducible refine gate_callee (f := 30) rfl ?_); refine goesL_ (some 26) rfl rfl Try.func30 (by kernel_rfl) rfl #[.slice A0_1 l0_1.length c0_1] rfl (by (try simp only [List.map_toArray, List.map_cons, List.map_nil]); first | done | rfl | (simp only [List.length_drop, List.length_take]; rfl)) ?_; (with_reducible refine (impl_Timer_30.calls _ _ l0_1 t196 _ ?side1 ?side2 A19.out).mono ?_); (case side1 => repeat (first | exact (Kd.C_below HR0_1.out HB.out) | (with_reducible refine Kd.C_alloc ?_ _) | (with_reducible refine Kd.C_drewN ?_ _) | (with_reducible refine Kd.C_drew ?_))); (case side2 => exact HC0_1.out); rintro e w22 ⟨v197, rfl, ho0, hb⟩; refine ⟨_, rfl, ?_⟩; have n0_ := Aside0.mk (Kd.R_lower ho0 (below_size blw)); have n1_ := Aside0.mk (blk_below (g := gb192) (o := .cells #[.int .i64 a0_0, .slice A0_1 l0_1.length c0_1] 31 (0, 0)) bkw hb); have n2_ := Aside0.mk (blk_below (g := gb193) (o := .cells #[.int .i64 0, .slice none 0 0] 31 (0, 0)) bkw hb); have n3_ := Aside0.mk (below_step blw hb); clear BK192; clear BK193; clear HB; have HO198 := n0_; have BK192 := n1_; have BK193 := n2_; have HB := n3_; clear n0_ n1_ n2_ n3_; (try clear hb); (try clear hb2); (try clear hk); (try clear hi); (try clear ho0)) | ((with_reducible refine gate_dst (N := 27) rfl ?_); refine Kd.R_lit k56 _ 56 ?hg (N := 27) ?hd (xs := ([] : List (S56))) (inner := []) (ok := fun _ => True) (okp := fun _ => True) ?hr ?hp (fun _ hk => hk) trivial (Below.refl _ _) (Nat.le_refl _) (by simp) ?_; (case hd => rfl); (case hg => rfl); (case hr => first | (go_simp; done) | (go_simp; rfl)); (case hp => exact (Reps.none _ _)); intro v200 w23 ho24 hb hg_ hnew_; clear hg_ hnew_; (first | rw [← Ny199.out] at ho24 | (simp only [Int.reduceToNat] at ho24; rw [← Ny199.out] at ho24)); have n0_ := Aside0.mk (Kd.R_below (by (with_reducible repeat (first | apply Kd.R_alloc | apply Kd.R_drewN | apply Kd.R_drew)); exact HO198.out) hb); have n1_ := Aside0.mk (Kd.R_lower ho24 (below_size blw)); have n2_ := Aside0.mk (blk_below (g := gb192) (o := .cells #[.int .i64 a0_0, .slice A0_1 l0_1.length c0_1] 31 (0, 0)) bkw hb); have n3_ := Aside0.mk (blk_below (g := gb193) (o := .cells #[.int .i64 0, .slice none 0 0] 31 (0, 0)) bkw hb); have n4_ := Aside0.mk (below_step blw hb); clear HO198; clear BK192; clear BK193; clear HB; have HO198 := n0_; have HO201 := n1_; have BK192 := n2_; have BK193 := n3_; have HB := n4_; clear n0_ n1_ n2_ n3_ n4_; clear hb ho24))
    go_loopg [7, 8] kj2 (fun kq v7 v8 w' => ∃ (x7_2 : List (S54)) (x8_2 : List (S56)) (x194000_2 : Int), Aside0 (impl_RunClock.l0 kq a1 x7_2 x8_2 = some (r1, r2, r3, r4)) ∧ Aside0 (kq ≤ kj2) ∧ Aside0 (Kd.R k54 54 w' w.heap.size (fun _ => True) v7 x7_2) ∧ Aside0 (Kd.R k56 56 w' w.heap.size (fun _ => True) v8 x8_2) ∧ Aside0 (w'.heap[gb192]? = some (.cells #[.int .i64 a0_0, (.slice A0_1 l0_1.length c0_1)] 31 (0, 0))) ∧ Aside0 (w'.heap[gb193]? = some (.cells #[.int .i64 x194000_2, (.slice none 0 0)] 31 (0, 0))) ∧ Aside0 (Below w.heap.size w w'))
    case atStart => exact ⟨(t196), (y199), (0), H', ⟨Nat.le_refl _⟩, ⟨by (with_reducible repeat (first | apply Kd.R_alloc | apply Kd.R_drewN | apply Kd.R_drew)); exact HO198.out⟩, ⟨by (with_reducible repeat (first | apply Kd.R_alloc | apply Kd.R_drewN | apply Kd.R_drew)); exact HO201.out⟩, ⟨by (with_reducible repeat (first | refine blk_drewN ?_ _ | refine blk_drew ?_ | refine blk_alloc ?_ _)); exact BK192.out⟩, ⟨by (with_reducible repeat (first | refine blk_drewN ?_ _ | refine blk_drew ?_ | refine blk_alloc ?_ _)); exact BK193.out⟩, ⟨blw⟩⟩
    case round =>
     clear H'
     try clear c1
     try clear c2
     try clear p2
     try clear c3
     try clear c7
     try clear c9
     try clear c10
     try clear c13
     try clear c16
     try clear c17
     try clear c20
     try clear hcz10_0
     try clear hcz10_1
     try clear hcz12_0
     try clear hcz12_1
     try clear hcz14_0
     try clear hcz14_1
     try clear hcz18_0
     try clear hcz18_1
     try clear hcz21_0
     try clear hcz21_1
     try clear hfz10_0
     try clear hfz10_1
     try clear hfz12_0
     try clear hfz12_1
     try clear hfz14_0
     try clear hfz14_1
     try clear hfz18_0
     try clear hfz18_1
     try clear hfz21_0
     try clear hfz21_1
     try clear p2
     obtain ⟨x7_2, x8_2, x194000_2, HA, HK2, HO_7, HO_8, BK192, BK193, HB⟩ := hrel
     cases gk with
     | zero => exact absurd HA.out (by simp [impl_RunClock.l0])
     | succ k2 =>
      have H := HA.out
      clear HA
      simp only [impl_RunClock.l0] at H
      have H' := Aside0.mk H
      clear H
      obtain ⟨Ao25, co25, eo25⟩ := Kd.R_slice HO_7.out
      subst eo25
      go_wp2
      go_loopg [9, 30] k2 (fun kq v9 v30 w' => ∃ (x9_3 : Int) (x30_3 : Int), v9 = .int .i64 x9_3 ∧ v30 = .int .i64 x30_3 ∧ Aside0 (impl_RunClock.l1 kq a1 x7_2 x8_2 x9_3 x7_2 (x7_2.length : Int) x30_3 = some (r1, r2, r3, r4)) ∧ Aside0 (kq ≤ k2) ∧ Aside0 (Kd.R k54 54 w' w.heap.size (fun _ => True) (.slice Ao25 x7_2.length co25) x7_2) ∧ Aside0 (Kd.R k56 56 w' w.heap.size (fun _ => True) u8 x8_2) ∧ Aside0 (Kd.R k54 54 w' w.heap.size (fun _ => True) (.slice Ao25 x7_2.length co25) x7_2) ∧ Aside0 (w'.heap[gb192]? = some (.cells #[.int .i64 a0_0, (.slice A0_1 l0_1.length c0_1)] 31 (0, 0))) ∧ Aside0 (w'.heap[gb193]? = some (.cells #[.int .i64 x194000_2, (.slice none 0 0)] 31 (0, 0))) ∧ Aside0 (Below w.heap.size w w'))
      case atStart => exact ⟨((-1)), (0), (by first | rfl | (simp; done) | (simp [*]; done)), (by first | rfl | (simp; done) | (simp [*]; done)), H', ⟨Nat.le_refl _⟩, ⟨by (with_reducible repeat (first | apply Kd.R_alloc | apply Kd.R_drewN | apply Kd.R_drew)); exact HO_7.out⟩, ⟨by (with_reducible repeat (first | apply Kd.R_alloc | apply Kd.R_drewN | apply Kd.R_drew)); exact HO_8.out⟩, ⟨by (with_reducible repeat (first | apply Kd.R_alloc | apply Kd.R_drewN | apply Kd.R_drew)); exact HO_7.out⟩, ⟨by (with_reducible repeat (first | refine blk_drewN ?_ _ | refine blk_drew ?_ | refine blk_alloc ?_ _)); exact BK192.out⟩, ⟨by (with_reducible repeat (first | refine blk_drewN ?_ _ | refine blk_drew ?_ | refine blk_alloc ?_ _)); exact BK193.out⟩, ⟨blw⟩⟩
      case round =>
       clear H'
       try clear c1
       try clear c2
       try clear p2
       try clear c3
       try clear c7
       try clear c9
       try clear c10
       try clear c13
       try clear c16
       try clear c17
       try clear c20
       try clear hcz10_0
       try clear hcz10_1
       try clear hcz12_0
       try clear hcz12_1
       try clear hcz14_0
       try clear hcz14_1
       try clear hcz18_0
       try clear hcz18_1
       try clear hcz21_0
       try clear hcz21_1
       try clear hfz10_0
       try clear hfz10_1
       try clear hfz12_0
       try clear hfz12_1
       try clear hfz14_0
       try clear hfz14_1
       try clear hfz18_0
       try clear hfz18_1
       try clear hfz21_0
       try clear hfz21_1
       try clear p2
       obtain ⟨x9_3, x30_3, rfl, rfl, HA, HK3, HO_7, HO_8, HO_28, BK192, BK193, HB⟩ := hrel
       cases gk with
       | zero => exact absurd HA.out (by simp [impl_RunClock.l1])
       | succ k3 =>
        have H := HA.out
        clear HA
        simp only [impl_RunClock.l1] at H
        by_cases c26 : x30_3 < (x7_2.length : Int)
        ·rw [if_pos c26] at H
         have c26b0 : decide (x30_3 < (x7_2.length : Int)) = true := decide_eq_true c26
         clear c26
         by_cases c27 : 0 ≤ x30_3
         ·rw [if_pos c27] at H
          have c27b0 : decide (0 ≤ x30_3) = true := decide_eq_true c27
          clear c27
          by_cases c28 : x30_3 < (x7_2.length : Int)
          ·rw [if_pos c28] at H
           have c28b0 : decide (x30_3 < (x7_2.length : Int)) = true := decide_eq_true c28
           clear c28
           by_cases c29 : ((rd_T54 x7_2 x30_3).f1) ≤ a1
           ·rw [if_pos c29] at H
            have c29b0 : decide (((rd_T54 x7_2 x30_3).f1) ≤ a1) = true := decide_eq_true c29
            clear c29
            by_cases c30 : x9_3 < 0
            ·rw [if_pos c30] at H
             have c30b0 : decide (x9_3 < 0) = true := decide_eq_true c30
             clear c30
             have H' := Aside0.mk H
             clear H
             have p202 : 0 ≤ (x30_3 : Int) := odt
             have q202 : x30_3 < (x7_2.length : Int) := odt
             obtain ⟨ad202, e202, hx202_0, hx202_1, hx202_2, hx202_3⟩ := at_T54 (Kd.R_reads' HO_28.out).2.2 x30_3 p202 q202
             cases e202
             replace p202 := eq_true p202
             replace q202 := eq_true q202
             try go_wp2_with (first | ((with_reducible refine gate_dst (N := 11) rfl ?_); refine box_event ?hg (N := 11) ?hd (cs := #[.int .i64 0, .int .i64 0, .int .i64 0, .int .i64 0]) (t := 54) ?hr ?_; (case hd => rfl); (case hg => rfl); (case hr => first | (go_simp; done) | (go_simp; rfl)); intro gb203 hg w31 hbox hb; have n0_ := Aside0.mk (Kd.R_below (Kd.R_elderB (by (with_reducible repeat (first | apply Kd.R_alloc | apply Kd.R_drewN | apply Kd.R_drew)); exact HO_7.out) gb203 (Nat.le_of_eq hg.symm)) hb); have n1_ := Aside0.mk (Kd.R_below (by (with_reducible repeat (first | apply Kd.R_alloc | apply Kd.R_drewN | apply Kd.R_drew)); exact HO_8.out) hb); have n2_ := Aside0.mk (Kd.R_below (Kd.R_elderB (by (with_reducible repeat (first | apply Kd.R_alloc | apply Kd.R_drewN | apply Kd.R_drew)); exact HO_28.out) gb203 (Nat.le_of_eq hg.symm)) hb); have n3_ := Aside0.mk (blk_below (g := gb192) (o := .cells #[.int .i64 a0_0, .slice A0_1 l0_1.length c0_1] 31 (0, 0)) bkw hb); have n4_ := Aside0.mk (blk_below (g := gb193) (o := .cells #[.int .i64 x194000_2, .slice none 0 0] 31 (0, 0)) bkw hb); have n5_ := Aside0.mk (below_step blw hb); have n6_ := Aside0.mk (hbox); have n7_ := Aside0.mk ((by rw [hg]; exact (below_size blw) : w.heap.size ≤ gb203)); have n8_ := Aside0.mk ((by rw [hg]; exact (below_size blw) : w.heap.size ≤ gb203)); have n9_ := Aside0.mk ((by rw [hg]; exact Nat.ne_of_lt (blk_lt (g := gb192) (o := .cells #[.int .i64 a0_0, .slice A0_1 l0_1.length c0_1] 31 (0, 0)) bkw) : gb192 ≠ gb203)); have n10_ := Aside0.mk ((by rw [hg]; exact Nat.ne_of_gt (blk_lt (g := gb192) (o := .cells #[.int .i64 a0_0, .slice A0_1 l0_1.length c0_1] 31 (0, 0)) bkw) : gb203 ≠ gb192)); have n11_ := Aside0.mk ((by rw [hg]; exact Nat.ne_of_lt (blk_lt (g := gb193) (o := .cells #[.int .i64 x194000_2, .slice none 0 0] 31 (0, 0)) bkw) : gb193 ≠ gb203)); have n12_ := Aside0.mk ((by rw [hg]; exact Nat.ne_of_gt (blk_lt (g := gb193) (o := .cells #[.int .i64 x194000_2, .slice none 0 0] 31 (0, 0)) bkw) : gb203 ≠ gb193)); clear HO_7; clear HO_8; clear HO_28; clear BK192; clear BK193; clear HB; have HO_7 := n0_; have HO_8 := n1_; have HO_28 := n2_; have BK192 := n3_; have BK193 := n4_; have HB := n5_; have BK203 := n6_; have GW203 := n7_; have GE203 := n8_; have NB192_203 := n9_; have NB203_192 := n10_; have NB193_203 := n11_; have NB203_193 := n12_; clear n0_ n1_ n2_ n3_ n4_ n5_ n6_ n7_ n8_ n9_ n10_ n11_ n12_; clear hb hbox hg; have hnb32 := NB203_192.out; have hnc32 := NB192_203.out; have hnb33 := NB203_193.out; have hnc33 := NB193_203.out; have hcz34_0 : w31.cell? ⟨gb203, 0, none⟩ = some (.int .i64 0) := (blk_cell BK203.out 0).trans rfl; have hcz34_1 : w31.cell? ⟨gb203, 1, none⟩ = some (.int .i64 0) := (blk_cell BK203.out 1).trans rfl; have hcz34_2 : w31.cell? ⟨gb203, 2, none⟩ = some (.int .i64 0) := (blk_cell BK203.out 2).trans rfl; have hcz34_3 : w31.cell? ⟨gb203, 3, none⟩ = some (.int .i64 0) := (blk_cell BK203.out 3).trans rfl; have hfz34_0 := blk_frozen BK203.out 0; have hfz34_1 := blk_frozen BK203.out 1; have hfz34_2 := blk_frozen BK203.out 2; have hfz34_3 := blk_frozen BK203.out 3))
             have n0_ : Aside0 (Kd.R k54 54 ((((w31.setCell ⟨gb203, 0, none⟩ (.int .i64 ((rd_T54 x7_2 x30_3).f0))).setCell ⟨gb203, 1, none⟩ (.int .i64 ((rd_T54 x7_2 x30_3).f1))).setCell ⟨gb203, 2, none⟩ (.int .i64 ((rd_T54 x7_2 x30_3).f2))).setCell ⟨gb203, 3, none⟩ (.int .i64 ((rd_T54 x7_2 x30_3).f3))) w.heap.size (fun k_ => k_ ≠ gb203) (.slice (some ad202) x7_2.length co25) x7_2) := ⟨by (with_reducible repeat (first | apply Kd.R_alloc | apply Kd.R_drewN | apply Kd.R_drew)); exact Kd.R_mono (Kd.R_far (p := ⟨gb203, 3, none⟩) (Kd.R_far (p := ⟨gb203, 2, none⟩) (Kd.R_far (p := ⟨gb203, 1, none⟩) (Kd.R_far (p := ⟨gb203, 0, none⟩) (Kd.R_mono HO_7.out (fun k_ hk => (⟨hk, hk.2⟩ : _ ∧ k_ ≠ gb203))) (fun _ hk => hk.2) (.int .i64 ((rd_T54 x7_2 x30_3).f0))) (fun _ hk => hk.2) (.int .i64 ((rd_T54 x7_2 x30_3).f1))) (fun _ hk => hk.2) (.int .i64 ((rd_T54 x7_2 x30_3).f2))) (fun _ hk => hk.2) (.int .i64 ((rd_T54 x7_2 x30_3).f3))) (fun _ hk => hk.1.2)⟩
             have n1_ : Aside0 (Kd.R k56 56 ((((w31.setCell ⟨gb203, 0, none⟩ (.int .i64 ((rd_T54 x7_2 x30_3).f0))).setCell ⟨gb203, 1, none⟩ (.int .i64 ((rd_T54 x7_2 x30_3).f1))).setCell ⟨gb203, 2, none⟩ (.int .i64 ((rd_T54 x7_2 x30_3).f2))).setCell ⟨gb203, 3, none⟩ (.int .i64 ((rd_T54 x7_2 x30_3).f3))) w.heap.size (fun _ => True) u8 x8_2) := ⟨by (with_reducible repeat (first | apply Kd.R_alloc | apply Kd.R_drewN | apply Kd.R_drew)); exact Kd.R_mono (Kd.R_far (p := ⟨gb203, 3, none⟩) (Kd.R_far (p := ⟨gb203, 2, none⟩) (Kd.R_far (p := ⟨gb203, 1, none⟩) (Kd.R_far (p := ⟨gb203, 0, none⟩) (Kd.R_types HO_8.out BK203.out (by decide)) (fun _ hk => hk.2) (.int .i64 ((rd_T54 x7_2 x30_3).f0))) (fun _ hk => hk.2) (.int .i64 ((rd_T54 x7_2 x30_3).f1))) (fun _ hk => hk.2) (.int .i64 ((rd_T54 x7_2 x30_3).f2))) (fun _ hk => hk.2) (.int .i64 ((rd_T54 x7_2 x30_3).f3))) (fun _ hk => trivial)⟩
             have n2_ : Aside0 (Kd.R k54 54 ((((w31.setCell ⟨gb203, 0, none⟩ (.int .i64 ((rd_T54 x7_2 x30_3).f0))).setCell ⟨gb203, 1, none⟩ (.int .i64 ((rd_T54 x7_2 x30_3).f1))).setCell ⟨gb203, 2, none⟩ (.int .i64 ((rd_T54 x7_2 x30_3).f2))).setCell ⟨gb203, 3, none⟩ (.int .i64 ((rd_T54 x7_2 x30_3).f3))) w.heap.size (fun k_ => k_ ≠ gb203) (.slice (some ad202) x7_2.length co25) x7_2) := ⟨by (with_reducible repeat (first | apply Kd.R_alloc | apply Kd.R_drewN | apply Kd.R_drew)); exact Kd.R_mono (Kd.R_far (p := ⟨gb203, 3, none⟩) (Kd.R_far (p := ⟨gb203, 2, none⟩) (Kd.R_far (p := ⟨gb203, 1, none⟩) (Kd.R_far (p := ⟨gb203, 0, none⟩) (Kd.R_mono HO_28.out (fun k_ hk => (⟨hk, hk.2⟩ : _ ∧ k_ ≠ gb203))) (fun _ hk => hk.2) (.int .i64 ((rd_T54 x7_2 x30_3).f0))) (fun _ hk => hk.2) (.int .i64 ((rd_T54 x7_2 x30_3).f1))) (fun _ hk => hk.2) (.int .i64 ((rd_T54 x7_2 x30_3).f2))) (fun _ hk => hk.2) (.int .i64 ((rd_T54 x7_2 x30_3).f3))) (fun _ hk => hk.1.2)⟩
             have n3_ : Aside0 (((((w31.setCell ⟨gb203, 0, none⟩ (.int .i64 ((rd_T54 x7_2 x30_3).f0))).setCell ⟨gb203, 1, none⟩ (.int .i64 ((rd_T54 x7_2 x30_3).f1))).setCell ⟨gb203, 2, none⟩ (.int .i64 ((rd_T54 x7_2 x30_3).f2))).setCell ⟨gb203, 3, none⟩ (.int .i64 ((rd_T54 x7_2 x30_3).f3))).heap[gb192]? = some (.cells #[.int .i64 a0_0, .slice A0_1 l0_1.length c0_1] 31 (0, 0))) := ⟨by (with_reducible repeat (first | refine blk_drewN ?_ _ | refine blk_drew ?_ | refine blk_alloc ?_ _)); refine blk_far ?_ NB192_203.out _; (with_reducible repeat (first | refine blk_drewN ?_ _ | refine blk_drew ?_ | refine blk_alloc ?_ _)); refine blk_far ?_ NB192_203.out _; (with_reducible repeat (first | refine blk_drewN ?_ _ | refine blk_drew ?_ | refine blk_alloc ?_ _)); refine blk_far ?_ NB192_203.out _; (with_reducible repeat (first | refine blk_drewN ?_ _ | refine blk_drew ?_ | refine blk_alloc ?_ _)); refine blk_far ?_ NB192_203.out _; (with_reducible repeat (first | refine blk_drewN ?_ _ | refine blk_drew ?_ | refine blk_alloc ?_ _)); exact BK192.out⟩
             have n4_ : Aside0 (((((w31.setCell ⟨gb203, 0, none⟩ (.int .i64 ((rd_T54 x7_2 x30_3).f0))).setCell ⟨gb203, 1, none⟩ (.int .i64 ((rd_T54 x7_2 x30_3).f1))).setCell ⟨gb203, 2, none⟩ (.int .i64 ((rd_T54 x7_2 x30_3).f2))).setCell ⟨gb203, 3, none⟩ (.int .i64 ((rd_T54 x7_2 x30_3).f3))).heap[gb193]? = some (.cells #[.int .i64 x194000_2, .slice none 0 0] 31 (0, 0))) := ⟨by (with_reducible repeat (first | refine blk_drewN ?_ _ | refine blk_drew ?_ | refine blk_alloc ?_ _)); refine blk_far ?_ NB193_203.out _; (with_reducible repeat (first | refine blk_drewN ?_ _ | refine blk_drew ?_ | refine blk_alloc ?_ _)); refine blk_far ?_ NB193_203.out _; (with_reducible repeat (first | refine blk_drewN ?_ _ | refine blk_drew ?_ | refine blk_alloc ?_ _)); refine blk_far ?_ NB193_203.out _; (with_reducible repeat (first | refine blk_drewN ?_ _ | refine blk_drew ?_ | refine blk_alloc ?_ _)); refine blk_far ?_ NB193_203.out _; (with_reducible repeat (first | refine blk_drewN ?_ _ | refine blk_drew ?_ | refine blk_alloc ?_ _)); exact BK193.out⟩
             have n5_ : Aside0 (((((w31.setCell ⟨gb203, 0, none⟩ (.int .i64 ((rd_T54 x7_2 x30_3).f0))).setCell ⟨gb203, 1, none⟩ (.int .i64 ((rd_T54 x7_2 x30_3).f1))).setCell ⟨gb203, 2, none⟩ (.int .i64 ((rd_T54 x7_2 x30_3).f2))).setCell ⟨gb203, 3, none⟩ (.int .i64 ((rd_T54 x7_2 x30_3).f3))).heap[gb203]? = some (.cells #[.int .i64 ((rd_T54 x7_2 x30_3).f0), .int .i64 ((rd_T54 x7_2 x30_3).f1), .int .i64 ((rd_T54 x7_2 x30_3).f2), .int .i64 ((rd_T54 x7_2 x30_3).f3)] 54 (0, 0))) := ⟨by (with_reducible repeat (first | refine blk_drewN ?_ _ | refine blk_drew ?_ | refine blk_alloc ?_ _)); refine blk_put (cs := #[.int .i64 ((rd_T54 x7_2 x30_3).f0), .int .i64 ((rd_T54 x7_2 x30_3).f1), .int .i64 ((rd_T54 x7_2 x30_3).f2), .int .i64 0]) ?_ 3 _ rfl; (with_reducible repeat (first | refine blk_drewN ?_ _ | refine blk_drew ?_ | refine blk_alloc ?_ _)); refine blk_put (cs := #[.int .i64 ((rd_T54 x7_2 x30_3).f0), .int .i64 ((rd_T54 x7_2 x30_3).f1), .int .i64 0, .int .i64 0]) ?_ 2 _ rfl; (with_reducible repeat (first | refine blk_drewN ?_ _ | refine blk_drew ?_ | refine blk_alloc ?_ _)); refine blk_put (cs := #[.int .i64 ((rd_T54 x7_2 x30_3).f0), .int .i64 0, .int .i64 0, .int .i64 0]) ?_ 1 _ rfl; (with_reducible repeat (first | refine blk_drewN ?_ _ | refine blk_drew ?_ | refine blk_alloc ?_ _)); refine blk_put (cs := #[.int .i64 0, .int .i64 0, .int .i64 0, .int .i64 0]) ?_ 0 _ rfl; (with_reducible repeat (first | refine blk_drewN ?_ _ | refine blk_drew ?_ | refine blk_alloc ?_ _)); exact BK203.out⟩
             have n6_ : Aside0 (Below w.heap.size w ((((w31.setCell ⟨gb203, 0, none⟩ (.int .i64 ((rd_T54 x7_2 x30_3).f0))).setCell ⟨gb203, 1, none⟩ (.int .i64 ((rd_T54 x7_2 x30_3).f1))).setCell ⟨gb203, 2, none⟩ (.int .i64 ((rd_T54 x7_2 x30_3).f2))).setCell ⟨gb203, 3, none⟩ (.int .i64 ((rd_T54 x7_2 x30_3).f3)))) := ⟨blw⟩
             (try clear HO_7)
             (try clear HO_8)
             (try clear HO_28)
             (try clear BK192)
             (try clear BK193)
             (try clear BK203)
             (try clear HB)
             generalize ((((w31.setCell ⟨gb203, 0, none⟩ (.int .i64 ((rd_T54 x7_2 x30_3).f0))).setCell ⟨gb203, 1, none⟩ (.int .i64 ((rd_T54 x7_2 x30_3).f1))).setCell ⟨gb203, 2, none⟩ (.int .i64 ((rd_T54 x7_2 x30_3).f2))).setCell ⟨gb203, 3, none⟩ (.int .i64 ((rd_T54 x7_2 x30_3).f3))) = w35 at n0_ n1_ n2_ n3_ n4_ n5_ n6_ ⊢
             have HO_7 := n0_
             have HO_8 := n1_
             have HO_28 := n2_
             have BK192 := n3_
             have BK193 := n4_
             have BK203 := n5_
             have HB := n6_
             clear n0_ n1_ n2_ n3_ n4_ n5_ n6_
             have n0_ := Aside0.mk (Kd.R_drew HO_7.out)
             have n1_ := Aside0.mk (Kd.R_drew HO_8.out)
             have n2_ := Aside0.mk (Kd.R_drew HO_28.out)
             have n3_ := Aside0.mk (blk_drew BK192.out)
             have n4_ := Aside0.mk (blk_drew BK193.out)
             have n5_ := Aside0.mk (blk_drew BK203.out)
             have n6_ := Aside0.mk (below_drew1 HB.out)
             clear HO_7
             clear HO_8
             clear HO_28
             clear BK192
             clear BK193
             clear BK203
             clear HB
             have HO_7 := n0_
             have HO_8 := n1_
             have HO_28 := n2_
             have BK192 := n3_
             have BK193 := n4_
             have BK203 := n5_
             have HB := n6_
             clear n0_ n1_ n2_ n3_ n4_ n5_ n6_
             refine start_ (n := 18) (S := fun w' => w'.cell? ⟨gb203, 0, none⟩ = some (.int .i64 ((rd_T54 x7_2 x30_3).f0)) ∧ w'.cell? ⟨gb203, 1, none⟩ = some (.int .i64 ((rd_T54 x7_2 x30_3).f1)) ∧ w'.cell? ⟨gb203, 2, none⟩ = some (.int .i64 ((rd_T54 x7_2 x30_3).f2)) ∧ w'.cell? ⟨gb203, 3, none⟩ = some (.int .i64 ((rd_T54 x7_2 x30_3).f3))) (ds := []) #[false, false, false, false, false, false, false, false, false, false, false, false, false, false, false, false, false, false] (by kernel_rfl) rfl rfl ⟨(blk_cell BK203.out 0).trans rfl, (blk_cell BK203.out 1).trans rfl, (blk_cell BK203.out 2).trans rfl, (blk_cell BK203.out 3).trans rfl⟩ (fun hHeld => ?_); refine with_tabW impl_RunClock.tab8 impl_RunClock.bits8 (fun HT_ HW_ => ?_)
             generalize w35.drew = w36 at HO_7 HO_8 HO_28 BK192 BK193 BK203 HB hHeld ⊢
             refine pure_ (i := 0) (N := some 35) (v := ?_) (a' := ?_) #[true, false, false, false, false, false, false, false, false, false, false, false, false, false, false, false, false, false] rfl rfl (any_of HT_.out (by kernel_rfl)) (fun _ _ _ h => h) (Or.inl ⟨by rfl, ?_⟩) ?_ ?_
             rotate_left; (· (intro w'; go_simp; with_reducible rfl)); rotate_left; (· (simp only [Act.put, sp1, sp2, sp3, i64_w, i32_w]; rfl))
             refine pure_ (i := 2) (N := some 37) (v := ?_) (a' := ?_) #[true, false, true, false, false, false, false, false, false, false, false, false, false, false, false, false, false, false] rfl rfl (any_of HT_.out (by kernel_rfl)) (fun _ _ _ h => h) (Or.inl ⟨by rfl, ?_⟩) ?_ ?_
             rotate_left; (· (intro w'; go_simp; with_reducible rfl)); rotate_left; (· (simp only [Act.put, sp1, sp2, sp3, i64_w, i32_w]; rfl))
             refine take_ (i := 1) (N := some 36) (v := ?_) (a' := ?_) #[true, true, true, false, false, false, false, false, false, false, false, false, false, false, false, false, false, false] rfl rfl (take_ofW HT_.out HW_.out (by kernel_rfl)) (fun _ _ _ h => h) (Or.inl ⟨by rfl, ?_⟩) hHeld ?_ ?_
             rotate_left; (· (rintro w' ⟨s0, s1, s2, s3⟩; go_simp; with_reducible rfl)); rotate_left; (· (simp only [Act.put, sp1, sp2, sp3, i64_w, i32_w]; rfl))
             refine pure_ (i := 3) (N := some 38) (v := ?_) (a' := ?_) #[true, true, true, true, false, false, false, false, false, false, false, false, false, false, false, false, false, false] rfl rfl (any_of HT_.out (by kernel_rfl)) (fun _ _ _ h => h) (Or.inl ⟨by rfl, ?_⟩) ?_ ?_
             rotate_left; (· (intro w'; go_simp; with_reducible rfl)); rotate_left; (· (simp only [Act.put, sp1, sp2, sp3, i64_w, i32_w]; rfl))
             refine pure_ (i := 4) (N := some 39) (v := ?_) (a' := ?_) #[true, true, true, true, true, false, false, false, false, false, false, false, false, false, false, false, false, false] rfl rfl (any_of HT_.out (by kernel_rfl)) (fun _ _ _ h => h) (Or.inl ⟨by rfl, ?_⟩) ?_ ?_
             rotate_left; (· (intro w'; go_simp; with_reducible rfl)); rotate_left; (· (simp only [Act.put, sp1, sp2, sp3, i64_w, i32_w]; rfl))
             refine pure_ (i := 5) (N := some 40) (v := ?_) (a' := ?_) #[true, true, true, true, true, true, false, false, false, false, false, false, false, false, false, false, false, false] rfl rfl (any_of HT_.out (by kernel_rfl)) (fun _ _ _ h => h) (Or.inl ⟨by rfl, ?_⟩) ?_ ?_
             rotate_left; (· (intro w'; go_simp; with_reducible rfl)); rotate_left; (· (simp only [Act.put, sp1, sp2, sp3, i64_w, i32_w]; rfl))
             refine pure_ (i := 6) (N := some 41) (v := ?_) (a' := ?_) #[true, true, true, true, true, true, true, false, false, false, false, false, false, false, false, false, false, false] rfl rfl (any_of HT_.out (by kernel_rfl)) (fun _ _ _ h => h) (Or.inl ⟨by rfl, ?_⟩) ?_ ?_
             rotate_left; (· (intro w'; go_simp; with_reducible rfl)); rotate_left; (· (simp only [Act.put, sp1, sp2, sp3, i64_w, i32_w]; rfl))
             refine pure_ (i := 7) (N := some 42) (v := ?_) (a' := ?_) #[true, true, true, true, true, true, true, true, false, false, false, false, false, false, false, false, false, false] rfl rfl (any_of HT_.out (by kernel_rfl)) (fun _ _ _ h => h) (Or.inl ⟨by rfl, ?_⟩) ?_ ?_
             rotate_left; (· (intro w'; go_simp; with_reducible rfl)); rotate_left; (· (simp only [Act.put, sp1, sp2, sp3, i64_w, i32_w]; rfl))
             refine pure_ (i := 8) (N := some 43) (v := undef) (a' := ?_) #[true, true, true, true, true, true, true, true, true, false, false, false, false, false, false, false, false, false] rfl rfl (any_of HT_.out (by kernel_rfl)) (fun _ _ _ h => h) (Or.inr ⟨by rfl, rfl⟩) ?_ ?_
             rotate_left
             ·simp only [Act.put, sp1, sp2, sp3, i64_w, i32_w]
              rfl
             refine pure_ (i := 9) (N := some 44) (v := undef) (a' := ?_) #[true, true, true, true, true, true, true, true, true, true, false, false, false, false, false, false, false, false] rfl rfl (any_of HT_.out (by kernel_rfl)) (fun _ _ _ h => h) (Or.inr ⟨by rfl, rfl⟩) ?_ ?_
             rotate_left
             ·simp only [Act.put, sp1, sp2, sp3, i64_w, i32_w]
              rfl
             refine pure_ (i := 10) (N := some 45) (v := undef) (a' := ?_) #[true, true, true, true, true, true, true, true, true, true, true, false, false, false, false, false, false, false] rfl rfl (any_of HT_.out (by kernel_rfl)) (fun _ _ _ h => h) (Or.inr ⟨by rfl, rfl⟩) ?_ ?_
             rotate_left
             ·simp only [Act.put, sp1, sp2, sp3, i64_w, i32_w]
              rfl
             refine pure_ (i := 11) (N := some 46) (v := undef) (a' := ?_) #[true, true, true, true, true, true, true, true, true, true, true, true, false, false, false, false, false, false] rfl rfl (any_of HT_.out (by kernel_rfl)) (fun _ _ _ h => h) (Or.inr ⟨by rfl, rfl⟩) ?_ ?_
             rotate_left
             ·simp only [Act.put, sp1, sp2, sp3, i64_w, i32_w]
              rfl
             refine pure_ (i := 12) (N := some 47) (v := undef) (a' := ?_) #[true, true, true, true, true, true, true, true, true, true, true, true, true, false, false, false, false, false] rfl rfl (any_of HT_.out (by kernel_rfl)) (fun _ _ _ h => h) (Or.inr ⟨by rfl, rfl⟩) ?_ ?_
             rotate_left
             ·simp only [Act.put, sp1, sp2, sp3, i64_w, i32_w]
              rfl
             refine pure_ (i := 13) (N := some 48) (v := undef) (a' := ?_) #[true, true, true, true, true, true, true, true, true, true, true, true, true, true, false, false, false, false] rfl rfl (any_of HT_.out (by kernel_rfl)) (fun _ _ _ h => h) (Or.inr ⟨by rfl, rfl⟩) ?_ ?_
             rotate_left
             ·simp only [Act.put, sp1, sp2, sp3, i64_w, i32_w]
              rfl
             refine pure_ (i := 14) (N := some 49) (v := undef) (a' := ?_) #[true, true, true, true, true, true, true, true, true, true, true, true, true, true, true, false, false, false] rfl rfl (any_of HT_.out (by kernel_rfl)) (fun _ _ _ h => h) (Or.inr ⟨by rfl, rfl⟩) ?_ ?_
             rotate_left
             ·simp only [Act.put, sp1, sp2, sp3, i64_w, i32_w]
              rfl
             refine pure_ (i := 15) (N := some 50) (v := undef) (a' := ?_) #[true, true, true, true, true, true, true, true, true, true, true, true, true, true, true, true, false, false] rfl rfl (any_of HT_.out (by kernel_rfl)) (fun _ _ _ h => h) (Or.inr ⟨by rfl, rfl⟩) ?_ ?_
             rotate_left
             ·simp only [Act.put, sp1, sp2, sp3, i64_w, i32_w]
              rfl
             refine pure_ (i := 16) (N := some 51) (v := ?_) (a' := ?_) #[true, true, true, true, true, true, true, true, true, true, true, true, true, true, true, true, true, false] rfl rfl (any_of HT_.out (by kernel_rfl)) (fun _ _ _ h => h) (Or.inl ⟨by rfl, ?_⟩) ?_ ?_
             rotate_left; (· (intro w'; go_simp; with_reducible rfl)); rotate_left; (· (simp only [Act.put, sp1, sp2, sp3, i64_w, i32_w]; rfl))
             refine pure_ (i := 17) (N := some 52) (v := ?_) (a' := ?_) #[true, true, true, true, true, true, true, true, true, true, true, true, true, true, true, true, true, true] rfl rfl (any_of HT_.out (by kernel_rfl)) (fun _ _ _ h => h) (Or.inl ⟨by rfl, ?_⟩) ?_ ?_
             rotate_left; (· (intro w'; go_simp; with_reducible rfl)); rotate_left; (· (simp only [Act.put, sp1, sp2, sp3, i64_w, i32_w]; rfl))
             refine done_ (done_of HT_.out (by kernel_rfl)) ?_
             try go_wp2
             go_roundg k3
             case measure => have := HJ2.out; have := HK2.out; have := HK3.out; omega
             case rel => exact ⟨(x30_3), (wrap64 (x30_3 + 1)), (by first | rfl | (simp; done) | (simp [*]; done)), (by first | rfl | (simp; done) | (simp [*]; done)), H', ⟨by have := HJ2.out; have := HK2.out; have := HK3.out; omega⟩, ⟨by (with_reducible repeat (first | apply Kd.R_alloc | apply Kd.R_drewN | apply Kd.R_drew)); exact Kd.R_mono HO_7.out (fun _ hk => trivial)⟩, ⟨by (with_reducible repeat (first | apply Kd.R_alloc | apply Kd.R_drewN | apply Kd.R_drew)); exact HO_8.out⟩, ⟨by (with_reducible repeat (first | apply Kd.R_alloc | apply Kd.R_drewN | apply Kd.R_drew)); exact Kd.R_mono HO_28.out (fun _ hk => trivial)⟩, ⟨by (with_reducible repeat (first | refine blk_drewN ?_ _ | refine blk_drew ?_ | refine blk_alloc ?_ _)); exact BK192.out⟩, ⟨by (with_reducible repeat (first | refine blk_drewN ?_ _ | refine blk_drew ?_ | refine blk_alloc ?_ _)); exact BK193.out⟩, ⟨blw⟩⟩
            ·rw [if_neg c30] at H
             have c30b0 : decide (x9_3 < 0) = false := decide_eq_false c30
             clear c30
             by_cases c37 : 0 ≤ x9_3
             ·rw [if_pos c37] at H
              have c37b0 : decide (0 ≤ x9_3) = true := decide_eq_true c37
              clear c37
              by_cases c38 : x9_3 < (x7_2.length : Int)
              ·rw [if_pos c38] at H
               have c38b0 : decide (x9_3 < (x7_2.length : Int)) = true := decide_eq_true c38
               clear c38
               by_cases c39 : ((rd_T54 x7_2 x30_3).f1) < ((rd_T54 x7_2 x9_3).f1)
               ·rw [if_pos c39] at H
                have c39b0 : decide (((rd_T54 x7_2 x30_3).f1) < ((rd_T54 x7_2 x9_3).f1)) = true := decide_eq_true c39
                clear c39
                have H' := Aside0.mk H
                clear H
                have p202 : 0 ≤ (x30_3 : Int) := odt
                have q202 : x30_3 < (x7_2.length : Int) := odt
                obtain ⟨ad202, e202, hx202_0, hx202_1, hx202_2, hx202_3⟩ := at_T54 (Kd.R_reads' HO_28.out).2.2 x30_3 p202 q202
                cases e202
                replace p202 := eq_true p202
                replace q202 := eq_true q202
                try go_wp2_with (first | ((with_reducible refine gate_dst (N := 11) rfl ?_); refine box_event ?hg (N := 11) ?hd (cs := #[.int .i64 0, .int .i64 0, .int .i64 0, .int .i64 0]) (t := 54) ?hr ?_; (case hd => rfl); (case hg => rfl); (case hr => first | (go_simp; done) | (go_simp; rfl)); intro gb203 hg w40 hbox hb; have n0_ := Aside0.mk (Kd.R_below (Kd.R_elderB (by (with_reducible repeat (first | apply Kd.R_alloc | apply Kd.R_drewN | apply Kd.R_drew)); exact HO_7.out) gb203 (Nat.le_of_eq hg.symm)) hb); have n1_ := Aside0.mk (Kd.R_below (by (with_reducible repeat (first | apply Kd.R_alloc | apply Kd.R_drewN | apply Kd.R_drew)); exact HO_8.out) hb); have n2_ := Aside0.mk (Kd.R_below (Kd.R_elderB (by (with_reducible repeat (first | apply Kd.R_alloc | apply Kd.R_drewN | apply Kd.R_drew)); exact HO_28.out) gb203 (Nat.le_of_eq hg.symm)) hb); have n3_ := Aside0.mk (blk_below (g := gb192) (o := .cells #[.int .i64 a0_0, .slice A0_1 l0_1.length c0_1] 31 (0, 0)) bkw hb); have n4_ := Aside0.mk (blk_below (g := gb193) (o := .cells #[.int .i64 x194000_2, .slice none 0 0] 31 (0, 0)) bkw hb); have n5_ := Aside0.mk (below_step blw hb); have n6_ := Aside0.mk (hbox); have n7_ := Aside0.mk ((by rw [hg]; exact (below_size blw) : w.heap.size ≤ gb203)); have n8_ := Aside0.mk ((by rw [hg]; exact (below_size blw) : w.heap.size ≤ gb203)); have n9_ := Aside0.mk ((by rw [hg]; exact Nat.ne_of_lt (blk_lt (g := gb192) (o := .cells #[.int .i64 a0_0, .slice A0_1 l0_1.length c0_1] 31 (0, 0)) bkw) : gb192 ≠ gb203)); have n10_ := Aside0.mk ((by rw [hg]; exact Nat.ne_of_gt (blk_lt (g := gb192) (o := .cells #[.int .i64 a0_0, .slice A0_1 l0_1.length c0_1] 31 (0, 0)) bkw) : gb203 ≠ gb192)); have n11_ := Aside0.mk ((by rw [hg]; exact Nat.ne_of_lt (blk_lt (g := gb193) (o := .cells #[.int .i64 x194000_2, .slice none 0 0] 31 (0, 0)) bkw) : gb193 ≠ gb203)); have n12_ := Aside0.mk ((by rw [hg]; exact Nat.ne_of_gt (blk_lt (g := gb193) (o := .cells #[.int .i64 x194000_2, .slice none 0 0] 31 (0, 0)) bkw) : gb203 ≠ gb193)); clear HO_7; clear HO_8; clear HO_28; clear BK192; clear BK193; clear HB; have HO_7 := n0_; have HO_8 := n1_; have HO_28 := n2_; have BK192 := n3_; have BK193 := n4_; have HB := n5_; have BK203 := n6_; have GW203 := n7_; have GE203 := n8_; have NB192_203 := n9_; have NB203_192 := n10_; have NB193_203 := n11_; have NB203_193 := n12_; clear n0_ n1_ n2_ n3_ n4_ n5_ n6_ n7_ n8_ n9_ n10_ n11_ n12_; clear hb hbox hg; have hnb41 := NB203_192.out; have hnc41 := NB192_203.out; have hnb42 := NB203_193.out; have hnc42 := NB193_203.out; have hcz43_0 : w40.cell? ⟨gb203, 0, none⟩ = some (.int .i64 0) := (blk_cell BK203.out 0).trans rfl; have hcz43_1 : w40.cell? ⟨gb203, 1, none⟩ = some (.int .i64 0) := (blk_cell BK203.out 1).trans rfl; have hcz43_2 : w40.cell? ⟨gb203, 2, none⟩ = some (.int .i64 0) := (blk_cell BK203.out 2).trans rfl; have hcz43_3 : w40.cell? ⟨gb203, 3, none⟩ = some (.int .i64 0) := (blk_cell BK203.out 3).trans rfl; have hfz43_0 := blk_frozen BK203.out 0; have hfz43_1 := blk_frozen BK203.out 1; have hfz43_2 := blk_frozen BK203.out 2; have hfz43_3 := blk_frozen BK203.out 3))
                have n0_ : Aside0 (Kd.R k54 54 ((((w40.setCell ⟨gb203, 0, none⟩ (.int .i64 ((rd_T54 x7_2 x30_3).f0))).setCell ⟨gb203, 1, none⟩ (.int .i64 ((rd_T54 x7_2 x30_3).f1))).setCell ⟨gb203, 2, none⟩ (.int .i64 ((rd_T54 x7_2 x30_3).f2))).setCell ⟨gb203, 3, none⟩ (.int .i64 ((rd_T54 x7_2 x30_3).f3))) w.heap.size (fun k_ => k_ ≠ gb203) (.slice (some ad202) x7_2.length co25) x7_2) := ⟨by (with_reducible repeat (first | apply Kd.R_alloc | apply Kd.R_drewN | apply Kd.R_drew)); exact Kd.R_mono (Kd.R_far (p := ⟨gb203, 3, none⟩) (Kd.R_far (p := ⟨gb203, 2, none⟩) (Kd.R_far (p := ⟨gb203, 1, none⟩) (Kd.R_far (p := ⟨gb203, 0, none⟩) (Kd.R_mono HO_7.out (fun k_ hk => (⟨hk, hk.2⟩ : _ ∧ k_ ≠ gb203))) (fun _ hk => hk.2) (.int .i64 ((rd_T54 x7_2 x30_3).f0))) (fun _ hk => hk.2) (.int .i64 ((rd_T54 x7_2 x30_3).f1))) (fun _ hk => hk.2) (.int .i64 ((rd_T54 x7_2 x30_3).f2))) (fun _ hk => hk.2) (.int .i64 ((rd_T54 x7_2 x30_3).f3))) (fun _ hk => hk.1.2)⟩
                have n1_ : Aside0 (Kd.R k56 56 ((((w40.setCell ⟨gb203, 0, none⟩ (.int .i64 ((rd_T54 x7_2 x30_3).f0))).setCell ⟨gb203, 1, none⟩ (.int .i64 ((rd_T54 x7_2 x30_3).f1))).setCell ⟨gb203, 2, none⟩ (.int .i64 ((rd_T54 x7_2 x30_3).f2))).setCell ⟨gb203, 3, none⟩ (.int .i64 ((rd_T54 x7_2 x30_3).f3))) w.heap.size (fun _ => True) u8 x8_2) := ⟨by (with_reducible repeat (first | apply Kd.R_alloc | apply Kd.R_drewN | apply Kd.R_drew)); exact Kd.R_mono (Kd.R_far (p := ⟨gb203, 3, none⟩) (Kd.R_far (p := ⟨gb203, 2, none⟩) (Kd.R_far (p := ⟨gb203, 1, none⟩) (Kd.R_far (p := ⟨gb203, 0, none⟩) (Kd.R_types HO_8.out BK203.out (by decide)) (fun _ hk => hk.2) (.int .i64 ((rd_T54 x7_2 x30_3).f0))) (fun _ hk => hk.2) (.int .i64 ((rd_T54 x7_2 x30_3).f1))) (fun _ hk => hk.2) (.int .i64 ((rd_T54 x7_2 x30_3).f2))) (fun _ hk => hk.2) (.int .i64 ((rd_T54 x7_2 x30_3).f3))) (fun _ hk => trivial)⟩
                have n2_ : Aside0 (Kd.R k54 54 ((((w40.setCell ⟨gb203, 0, none⟩ (.int .i64 ((rd_T54 x7_2 x30_3).f0))).setCell ⟨gb203, 1, none⟩ (.int .i64 ((rd_T54 x7_2 x30_3).f1))).setCell ⟨gb203, 2, none⟩ (.int .i64 ((rd_T54 x7_2 x30_3).f2))).setCell ⟨gb203, 3, none⟩ (.int .i64 ((rd_T54 x7_2 x30_3).f3))) w.heap.size (fun k_ => k_ ≠ gb203) (.slice (some ad202) x7_2.length co25) x7_2) := ⟨by (with_reducible repeat (first | apply Kd.R_alloc | apply Kd.R_drewN | apply Kd.R_drew)); exact Kd.R_mono (Kd.R_far (p := ⟨gb203, 3, none⟩) (Kd.R_far (p := ⟨gb203, 2, none⟩) (Kd.R_far (p := ⟨gb203, 1, none⟩) (Kd.R_far (p := ⟨gb203, 0, none⟩) (Kd.R_mono HO_28.out (fun k_ hk => (⟨hk, hk.2⟩ : _ ∧ k_ ≠ gb203))) (fun _ hk => hk.2) (.int .i64 ((rd_T54 x7_2 x30_3).f0))) (fun _ hk => hk.2) (.int .i64 ((rd_T54 x7_2 x30_3).f1))) (fun _ hk => hk.2) (.int .i64 ((rd_T54 x7_2 x30_3).f2))) (fun _ hk => hk.2) (.int .i64 ((rd_T54 x7_2 x30_3).f3))) (fun _ hk => hk.1.2)⟩
                have n3_ : Aside0 (((((w40.setCell ⟨gb203, 0, none⟩ (.int .i64 ((rd_T54 x7_2 x30_3).f0))).setCell ⟨gb203, 1, none⟩ (.int .i64 ((rd_T54 x7_2 x30_3).f1))).setCell ⟨gb203, 2, none⟩ (.int .i64 ((rd_T54 x7_2 x30_3).f2))).setCell ⟨gb203, 3, none⟩ (.int .i64 ((rd_T54 x7_2 x30_3).f3))).heap[gb192]? = some (.cells #[.int .i64 a0_0, .slice A0_1 l0_1.length c0_1] 31 (0, 0))) := ⟨by (with_reducible repeat (first | refine blk_drewN ?_ _ | refine blk_drew ?_ | refine blk_alloc ?_ _)); refine blk_far ?_ NB192_203.out _; (with_reducible repeat (first | refine blk_drewN ?_ _ | refine blk_drew ?_ | refine blk_alloc ?_ _)); refine blk_far ?_ NB192_203.out _; (with_reducible repeat (first | refine blk_drewN ?_ _ | refine blk_drew ?_ | refine blk_alloc ?_ _)); refine blk_far ?_ NB192_203.out _; (with_reducible repeat (first | refine blk_drewN ?_ _ | refine blk_drew ?_ | refine blk_alloc ?_ _)); refine blk_far ?_ NB192_203.out _; (with_reducible repeat (first | refine blk_drewN ?_ _ | refine blk_drew ?_ | refine blk_alloc ?_ _)); exact BK192.out⟩
                have n4_ : Aside0 (((((w40.setCell ⟨gb203, 0, none⟩ (.int .i64 ((rd_T54 x7_2 x30_3).f0))).setCell ⟨gb203, 1, none⟩ (.int .i64 ((rd_T54 x7_2 x30_3).f1))).setCell ⟨gb203, 2, none⟩ (.int .i64 ((rd_T54 x7_2 x30_3).f2))).setCell ⟨gb203, 3, none⟩ (.int .i64 ((rd_T54 x7_2 x30_3).f3))).heap[gb193]? = some (.cells #[.int .i64 x194000_2, .slice none 0 0] 31 (0, 0))) := ⟨by (with_reducible repeat (first | refine blk_drewN ?_ _ | refine blk_drew ?_ | refine blk_alloc ?_ _)); refine blk_far ?_ NB193_203.out _; (with_reducible repeat (first | refine blk_drewN ?_ _ | refine blk_drew ?_ | refine blk_alloc ?_ _)); refine blk_far ?_ NB193_203.out _; (with_reducible repeat (first | refine blk_drewN ?_ _ | refine blk_drew ?_ | refine blk_alloc ?_ _)); refine blk_far ?_ NB193_203.out _; (with_reducible repeat (first | refine blk_drewN ?_ _ | refine blk_drew ?_ | refine blk_alloc ?_ _)); refine blk_far ?_ NB193_203.out _; (with_reducible repeat (first | refine blk_drewN ?_ _ | refine blk_drew ?_ | refine blk_alloc ?_ _)); exact BK193.out⟩
                have n5_ : Aside0 (((((w40.setCell ⟨gb203, 0, none⟩ (.int .i64 ((rd_T54 x7_2 x30_3).f0))).setCell ⟨gb203, 1, none⟩ (.int .i64 ((rd_T54 x7_2 x30_3).f1))).setCell ⟨gb203, 2, none⟩ (.int .i64 ((rd_T54 x7_2 x30_3).f2))).setCell ⟨gb203, 3, none⟩ (.int .i64 ((rd_T54 x7_2 x30_3).f3))).heap[gb203]? = some (.cells #[.int .i64 ((rd_T54 x7_2 x30_3).f0), .int .i64 ((rd_T54 x7_2 x30_3).f1), .int .i64 ((rd_T54 x7_2 x30_3).f2), .int .i64 ((rd_T54 x7_2 x30_3).f3)] 54 (0, 0))) := ⟨by (with_reducible repeat (first | refine blk_drewN ?_ _ | refine blk_drew ?_ | refine blk_alloc ?_ _)); refine blk_put (cs := #[.int .i64 ((rd_T54 x7_2 x30_3).f0), .int .i64 ((rd_T54 x7_2 x30_3).f1), .int .i64 ((rd_T54 x7_2 x30_3).f2), .int .i64 0]) ?_ 3 _ rfl; (with_reducible repeat (first | refine blk_drewN ?_ _ | refine blk_drew ?_ | refine blk_alloc ?_ _)); refine blk_put (cs := #[.int .i64 ((rd_T54 x7_2 x30_3).f0), .int .i64 ((rd_T54 x7_2 x30_3).f1), .int .i64 0, .int .i64 0]) ?_ 2 _ rfl; (with_reducible repeat (first | refine blk_drewN ?_ _ | refine blk_drew ?_ | refine blk_alloc ?_ _)); refine blk_put (cs := #[.int .i64 ((rd_T54 x7_2 x30_3).f0), .int .i64 0, .int .i64 0, .int .i64 0]) ?_ 1 _ rfl; (with_reducible repeat (first | refine blk_drewN ?_ _ | refine blk_drew ?_ | refine blk_alloc ?_ _)); refine blk_put (cs := #[.int .i64 0, .int .i64 0, .int .i64 0, .int .i64 0]) ?_ 0 _ rfl; (with_reducible repeat (first | refine blk_drewN ?_ _ | refine blk_drew ?_ | refine blk_alloc ?_ _)); exact BK203.out⟩
                have n6_ : Aside0 (Below w.heap.size w ((((w40.setCell ⟨gb203, 0, none⟩ (.int .i64 ((rd_T54 x7_2 x30_3).f0))).setCell ⟨gb203, 1, none⟩ (.int .i64 ((rd_T54 x7_2 x30_3).f1))).setCell ⟨gb203, 2, none⟩ (.int .i64 ((rd_T54 x7_2 x30_3).f2))).setCell ⟨gb203, 3, none⟩ (.int .i64 ((rd_T54 x7_2 x30_3).f3)))) := ⟨blw⟩
                (try clear HO_7)
                (try clear HO_8)
                (try clear HO_28)
                (try clear BK192)
                (try clear BK193)
                (try clear BK203)
                (try clear HB)
                generalize ((((w40.setCell ⟨gb203, 0, none⟩ (.int .i64 ((rd_T54 x7_2 x30_3).f0))).setCell ⟨gb203, 1, none⟩ (.int .i64 ((rd_T54 x7_2 x30_3).f1))).setCell ⟨gb203, 2, none⟩ (.int .i64 ((rd_T54 x7_2 x30_3).f2))).setCell ⟨gb203, 3, none⟩ (.int .i64 ((rd_T54 x7_2 x30_3).f3))) = w44 at n0_ n1_ n2_ n3_ n4_ n5_ n6_ ⊢
                have HO_7 := n0_
                have HO_8 := n1_
                have HO_28 := n2_
                have BK192 := n3_
                have BK193 := n4_
                have BK203 := n5_
                have HB := n6_
                clear n0_ n1_ n2_ n3_ n4_ n5_ n6_
                have n0_ := Aside0.mk (Kd.R_drew HO_7.out)
                have n1_ := Aside0.mk (Kd.R_drew HO_8.out)
                have n2_ := Aside0.mk (Kd.R_drew HO_28.out)
                have n3_ := Aside0.mk (blk_drew BK192.out)
                have n4_ := Aside0.mk (blk_drew BK193.out)
                have n5_ := Aside0.mk (blk_drew BK203.out)
                have n6_ := Aside0.mk (below_drew1 HB.out)
                clear HO_7
                clear HO_8
                clear HO_28
                clear BK192
                clear BK193
                clear BK203
                clear HB
                have HO_7 := n0_
                have HO_8 := n1_
                have HO_28 := n2_
                have BK192 := n3_
                have BK193 := n4_
                have BK203 := n5_
                have HB := n6_
                clear n0_ n1_ n2_ n3_ n4_ n5_ n6_
                have p204 : 0 ≤ (x9_3 : Int) := odt
                have q204 : x9_3 < (x7_2.length : Int) := odt
                obtain ⟨ad204, e204, hx204_0, hx204_1, hx204_2, hx204_3⟩ := at_T54 (Kd.R_reads' HO_7.out).2.2 x9_3 p204 q204
                obtain rfl : ad202 = ad204 := (by injection e204)
                replace p204 := eq_true p204
                replace q204 := eq_true q204
                refine start_ (n := 18) (S := fun w' => w'.cell? ⟨gb203, 0, none⟩ = some (.int .i64 ((rd_T54 x7_2 x30_3).f0)) ∧ w'.cell? ⟨gb203, 1, none⟩ = some (.int .i64 ((rd_T54 x7_2 x30_3).f1)) ∧ w'.cell? ⟨gb203, 2, none⟩ = some (.int .i64 ((rd_T54 x7_2 x30_3).f2)) ∧ w'.cell? ⟨gb203, 3, none⟩ = some (.int .i64 ((rd_T54 x7_2 x30_3).f3)) ∧ w'.cell? (ad202.add ((x9_3).toNat * 4)) = some (.int .i64 ((rd_T54 x7_2 x9_3).f0)) ∧ w'.cell? ⟨(ad202.add ((x9_3).toNat * 4)).block, (ad202.add ((x9_3).toNat * 4)).off + 1, none⟩ = some (.int .i64 ((rd_T54 x7_2 x9_3).f1)) ∧ w'.cell? ⟨(ad202.add ((x9_3).toNat * 4)).block, (ad202.add ((x9_3).toNat * 4)).off + 2, none⟩ = some (.int .i64 ((rd_T54 x7_2 x9_3).f2)) ∧ w'.cell? ⟨(ad202.add ((x9_3).toNat * 4)).block, (ad202.add ((x9_3).toNat * 4)).off + 3, none⟩ = some (.int .i64 ((rd_T54 x7_2 x9_3).f3))) (ds := []) #[false, false, false, false, false, false, false, false, false, false, false, false, false, false, false, false, false, false] (by kernel_rfl) rfl rfl ⟨(blk_cell BK203.out 0).trans rfl, (blk_cell BK203.out 1).trans rfl, (blk_cell BK203.out 2).trans rfl, (blk_cell BK203.out 3).trans rfl, hx204_0, hx204_1, hx204_2, hx204_3⟩ (fun hHeld => ?_); refine with_tabW impl_RunClock.tab8 impl_RunClock.bits8 (fun HT_ HW_ => ?_)
                generalize w44.drew = w45 at HO_7 HO_8 HO_28 BK192 BK193 BK203 HB hx204_0 hx204_1 hx204_2 hx204_3 hHeld ⊢
                refine pure_ (i := 0) (N := some 35) (v := ?_) (a' := ?_) #[true, false, false, false, false, false, false, false, false, false, false, false, false, false, false, false, false, false] rfl rfl (any_of HT_.out (by kernel_rfl)) (fun _ _ _ h => h) (Or.inl ⟨by rfl, ?_⟩) ?_ ?_
                rotate_left; (· (intro w'; go_simp; with_reducible rfl)); rotate_left; (· (simp only [Act.put, sp1, sp2, sp3, i64_w, i32_w]; rfl))
                refine pure_ (i := 2) (N := some 37) (v := ?_) (a' := ?_) #[true, false, true, false, false, false, false, false, false, false, false, false, false, false, false, false, false, false] rfl rfl (any_of HT_.out (by kernel_rfl)) (fun _ _ _ h => h) (Or.inl ⟨by rfl, ?_⟩) ?_ ?_
                rotate_left; (· (intro w'; go_simp; with_reducible rfl)); rotate_left; (· (simp only [Act.put, sp1, sp2, sp3, i64_w, i32_w]; rfl))
                refine take_ (i := 1) (N := some 36) (v := ?_) (a' := ?_) #[true, true, true, false, false, false, false, false, false, false, false, false, false, false, false, false, false, false] rfl rfl (take_ofW HT_.out HW_.out (by kernel_rfl)) (fun _ _ _ h => h) (Or.inl ⟨by rfl, ?_⟩) hHeld ?_ ?_
                rotate_left; (· (rintro w' ⟨s0, s1, s2, s3, s4, s5, s6, s7⟩; go_simp; with_reducible rfl)); rotate_left; (· (simp only [Act.put, sp1, sp2, sp3, i64_w, i32_w]; rfl))
                refine pure_ (i := 3) (N := some 38) (v := ?_) (a' := ?_) #[true, true, true, true, false, false, false, false, false, false, false, false, false, false, false, false, false, false] rfl rfl (any_of HT_.out (by kernel_rfl)) (fun _ _ _ h => h) (Or.inl ⟨by rfl, ?_⟩) ?_ ?_
                rotate_left; (· (intro w'; go_simp; with_reducible rfl)); rotate_left; (· (simp only [Act.put, sp1, sp2, sp3, i64_w, i32_w]; rfl))
                refine pure_ (i := 4) (N := some 39) (v := ?_) (a' := ?_) #[true, true, true, true, true, false, false, false, false, false, false, false, false, false, false, false, false, false] rfl rfl (any_of HT_.out (by kernel_rfl)) (fun _ _ _ h => h) (Or.inl ⟨by rfl, ?_⟩) ?_ ?_
                rotate_left; (· (intro w'; go_simp; with_reducible rfl)); rotate_left; (· (simp only [Act.put, sp1, sp2, sp3, i64_w, i32_w]; rfl))
                refine pure_ (i := 5) (N := some 40) (v := ?_) (a' := ?_) #[true, true, true, true, true, true, false, false, false, false, false, false, false, false, false, false, false, false] rfl rfl (any_of HT_.out (by kernel_rfl)) (fun _ _ _ h => h) (Or.inl ⟨by rfl, ?_⟩) ?_ ?_
                rotate_left; (· (intro w'; go_simp; with_reducible rfl)); rotate_left; (· (simp only [Act.put, sp1, sp2, sp3, i64_w, i32_w]; rfl))
                refine pure_ (i := 6) (N := some 41) (v := ?_) (a' := ?_) #[true, true, true, true, true, true, true, false, false, false, false, false, false, false, false, false, false, false] rfl rfl (any_of HT_.out (by kernel_rfl)) (fun _ _ _ h => h) (Or.inl ⟨by rfl, ?_⟩) ?_ ?_
                rotate_left; (· (intro w'; go_simp; with_reducible rfl)); rotate_left; (· (simp only [Act.put, sp1, sp2, sp3, i64_w, i32_w]; rfl))
                refine pure_ (i := 7) (N := some 42) (v := ?_) (a' := ?_) #[true, true, true, true, true, true, true, true, false, false, false, false, false, false, false, false, false, false] rfl rfl (any_of HT_.out (by kernel_rfl)) (fun _ _ _ h => h) (Or.inl ⟨by rfl, ?_⟩) ?_ ?_
                rotate_left; (· (intro w'; go_simp; with_reducible rfl)); rotate_left; (· (simp only [Act.put, sp1, sp2, sp3, i64_w, i32_w]; rfl))
                refine pure_ (i := 8) (N := some 43) (v := ?_) (a' := ?_) #[true, true, true, true, true, true, true, true, true, false, false, false, false, false, false, false, false, false] rfl rfl (any_of HT_.out (by kernel_rfl)) (fun _ _ _ h => h) (Or.inl ⟨by rfl, ?_⟩) ?_ ?_
                rotate_left; (· (intro w'; go_simp; with_reducible rfl)); rotate_left; (· (simp only [Act.put, sp1, sp2, sp3, i64_w, i32_w]; rfl))
                refine pure_ (i := 10) (N := some 45) (v := ?_) (a' := ?_) #[true, true, true, true, true, true, true, true, true, false, true, false, false, false, false, false, false, false] rfl rfl (any_of HT_.out (by kernel_rfl)) (fun _ _ _ h => h) (Or.inl ⟨by rfl, ?_⟩) ?_ ?_
                rotate_left; (· (intro w'; go_simp; with_reducible rfl)); rotate_left; (· (simp only [Act.put, sp1, sp2, sp3, i64_w, i32_w]; rfl))
                refine pure_ (i := 11) (N := some 46) (v := ?_) (a' := ?_) #[true, true, true, true, true, true, true, true, true, false, true, true, false, false, false, false, false, false] rfl rfl (any_of HT_.out (by kernel_rfl)) (fun _ _ _ h => h) (Or.inl ⟨by rfl, ?_⟩) ?_ ?_
                rotate_left; (· (intro w'; go_simp; with_reducible rfl)); rotate_left; (· (simp only [Act.put, sp1, sp2, sp3, i64_w, i32_w]; rfl))
                refine pure_ (i := 12) (N := some 47) (v := ?_) (a' := ?_) #[true, true, true, true, true, true, true, true, true, false, true, true, true, false, false, false, false, false] rfl rfl (any_of HT_.out (by kernel_rfl)) (fun _ _ _ h => h) (Or.inl ⟨by rfl, ?_⟩) ?_ ?_
                rotate_left; (· (intro w'; go_simp; with_reducible rfl)); rotate_left; (· (simp only [Act.put, sp1, sp2, sp3, i64_w, i32_w]; rfl))
                refine pure_ (i := 13) (N := some 48) (v := ?_) (a' := ?_) #[true, true, true, true, true, true, true, true, true, false, true, true, true, true, false, false, false, false] rfl rfl (any_of HT_.out (by kernel_rfl)) (fun _ _ _ h => h) (Or.inl ⟨by rfl, ?_⟩) ?_ ?_
                rotate_left; (· (intro w'; go_simp; with_reducible rfl)); rotate_left; (· (simp only [Act.put, sp1, sp2, sp3, i64_w, i32_w]; rfl))
                refine take_ (i := 9) (N := some 44) (v := ?_) (a' := ?_) #[true, true, true, true, true, true, true, true, true, true, true, true, true, true, false, false, false, false] rfl rfl (take_ofW HT_.out HW_.out (by kernel_rfl)) (fun _ _ _ h => h) (Or.inl ⟨by rfl, ?_⟩) hHeld ?_ ?_
                rotate_left; (· (rintro w' ⟨s0, s1, s2, s3, s4, s5, s6, s7⟩; go_simp; with_reducible rfl)); rotate_left; (· (simp only [Act.put, sp1, sp2, sp3, i64_w, i32_w]; rfl))
                refine take_ (i := 14) (N := some 49) (v := ?_) (a' := ?_) #[true, true, true, true, true, true, true, true, true, true, true, true, true, true, true, false, false, false] rfl rfl (take_ofW HT_.out HW_.out (by kernel_rfl)) (fun _ _ _ h => h) (Or.inl ⟨by rfl, ?_⟩) hHeld ?_ ?_
                rotate_left; (· (rintro w' ⟨s0, s1, s2, s3, s4, s5, s6, s7⟩; go_simp; with_reducible rfl)); rotate_left; (· (simp only [Act.put, sp1, sp2, sp3, i64_w, i32_w]; rfl))
                refine pure_ (i := 15) (N := some 50) (v := ?_) (a' := ?_) #[true, true, true, true, true, true, true, true, true, true, true, true, true, true, true, true, false, false] rfl rfl (any_of HT_.out (by kernel_rfl)) (fun _ _ _ h => h) (Or.inl ⟨by rfl, ?_⟩) ?_ ?_
                rotate_left; (· (intro w'; go_simp; with_reducible rfl)); rotate_left; (· (simp only [Act.put, sp1, sp2, sp3, i64_w, i32_w]; rfl))
                refine pure_ (i := 16) (N := some 51) (v := ?_) (a' := ?_) #[true, true, true, true, true, true, true, true, true, true, true, true, true, true, true, true, true, false] rfl rfl (any_of HT_.out (by kernel_rfl)) (fun _ _ _ h => h) (Or.inl ⟨by rfl, ?_⟩) ?_ ?_
                rotate_left; (· (intro w'; go_simp; with_reducible rfl)); rotate_left; (· (simp only [Act.put, sp1, sp2, sp3, i64_w, i32_w]; rfl))
                refine pure_ (i := 17) (N := some 52) (v := ?_) (a' := ?_) #[true, true, true, true, true, true, true, true, true, true, true, true, true, true, true, true, true, true] rfl rfl (any_of HT_.out (by kernel_rfl)) (fun _ _ _ h => h) (Or.inl ⟨by rfl, ?_⟩) ?_ ?_
                rotate_left; (· (intro w'; go_simp; with_reducible rfl)); rotate_left; (· (simp only [Act.put, sp1, sp2, sp3, i64_w, i32_w]; rfl))
                refine done_ (done_of HT_.out (by kernel_rfl)) ?_
                try go_wp2
                go_roundg k3
                case measure => have := HJ2.out; have := HK2.out; have := HK3.out; omega
                case rel => exact ⟨(x30_3), (wrap64 (x30_3 + 1)), (by first | rfl | (simp; done) | (simp [*]; done)), (by first | rfl | (simp; done) | (simp [*]; done)), H', ⟨by have := HJ2.out; have := HK2.out; have := HK3.out; omega⟩, ⟨by (with_reducible repeat (first | apply Kd.R_alloc | apply Kd.R_drewN | apply Kd.R_drew)); exact Kd.R_mono HO_7.out (fun _ hk => trivial)⟩, ⟨by (with_reducible repeat (first | apply Kd.R_alloc | apply Kd.R_drewN | apply Kd.R_drew)); exact HO_8.out⟩, ⟨by (with_reducible repeat (first | apply Kd.R_alloc | apply Kd.R_drewN | apply Kd.R_drew)); exact Kd.R_mono HO_28.out (fun _ hk => trivial)⟩, ⟨by (with_reducible repeat (first | refine blk_drewN ?_ _ | refine blk_drew ?_ | refine blk_alloc ?_ _)); exact BK192.out⟩, ⟨by (with_reducible repeat (first | refine blk_drewN ?_ _ | refine blk_drew ?_ | refine blk_alloc ?_ _)); exact BK193.out⟩, ⟨blw⟩⟩
               ·rw [if_neg c39] at H
                have c39b0 : decide (((rd_T54 x7_2 x30_3).f1) < ((rd_T54 x7_2 x9_3).f1)) = false := decide_eq_false c39
                clear c39
                have H' := Aside0.mk H
                clear H
                have p202 : 0 ≤ (x30_3 : Int) := odt
                have q202 : x30_3 < (x7_2.length : Int) := odt
                obtain ⟨ad202, e202, hx202_0, hx202_1, hx202_2, hx202_3⟩ := at_T54 (Kd.R_reads' HO_28.out).2.2 x30_3 p202 q202
                cases e202
                replace p202 := eq_true p202
                replace q202 := eq_true q202
                try go_wp2_with (first | ((with_reducible refine gate_dst (N := 11) rfl ?_); refine box_event ?hg (N := 11) ?hd (cs := #[.int .i64 0, .int .i64 0, .int .i64 0, .int .i64 0]) (t := 54) ?hr ?_; (case hd => rfl); (case hg => rfl); (case hr => first | (go_simp; done) | (go_simp; rfl)); intro gb203 hg w46 hbox hb; have n0_ := Aside0.mk (Kd.R_below (Kd.R_elderB (by (with_reducible repeat (first | apply Kd.R_alloc | apply Kd.R_drewN | apply Kd.R_drew)); exact HO_7.out) gb203 (Nat.le_of_eq hg.symm)) hb); have n1_ := Aside0.mk (Kd.R_below (by (with_reducible repeat (first | apply Kd.R_alloc | apply Kd.R_drewN | apply Kd.R_drew)); exact HO_8.out) hb); have n2_ := Aside0.mk (Kd.R_below (Kd.R_elderB (by (with_reducible repeat (first | apply Kd.R_alloc | apply Kd.R_drewN | apply Kd.R_drew)); exact HO_28.out) gb203 (Nat.le_of_eq hg.symm)) hb); have n3_ := Aside0.mk (blk_below (g := gb192) (o := .cells #[.int .i64 a0_0, .slice A0_1 l0_1.length c0_1] 31 (0, 0)) bkw hb); have n4_ := Aside0.mk (blk_below (g := gb193) (o := .cells #[.int .i64 x194000_2, .slice none 0 0] 31 (0, 0)) bkw hb); have n5_ := Aside0.mk (below_step blw hb); have n6_ := Aside0.mk (hbox); have n7_ := Aside0.mk ((by rw [hg]; exact (below_size blw) : w.heap.size ≤ gb203)); have n8_ := Aside0.mk ((by rw [hg]; exact (below_size blw) : w.heap.size ≤ gb203)); have n9_ := Aside0.mk ((by rw [hg]; exact Nat.ne_of_lt (blk_lt (g := gb192) (o := .cells #[.int .i64 a0_0, .slice A0_1 l0_1.length c0_1] 31 (0, 0)) bkw) : gb192 ≠ gb203)); have n10_ := Aside0.mk ((by rw [hg]; exact Nat.ne_of_gt (blk_lt (g := gb192) (o := .cells #[.int .i64 a0_0, .slice A0_1 l0_1.length c0_1] 31 (0, 0)) bkw) : gb203 ≠ gb192)); have n11_ := Aside0.mk ((by rw [hg]; exact Nat.ne_of_lt (blk_lt (g := gb193) (o := .cells #[.int .i64 x194000_2, .slice none 0 0] 31 (0, 0)) bkw) : gb193 ≠ gb203)); have n12_ := Aside0.mk ((by rw [hg]; exact Nat.ne_of_gt (blk_lt (g := gb193) (o := .cells #[.int .i64 x194000_2, .slice none 0 0] 31 (0, 0)) bkw) : gb203 ≠ gb193)); clear HO_7; clear HO_8; clear HO_28; clear BK192; clear BK193; clear HB; have HO_7 := n0_; have HO_8 := n1_; have HO_28 := n2_; have BK192 := n3_; have BK193 := n4_; have HB := n5_; have BK203 := n6_; have GW203 := n7_; have GE203 := n8_; have NB192_203 := n9_; have NB203_192 := n10_; have NB193_203 := n11_; have NB203_193 := n12_; clear n0_ n1_ n2_ n3_ n4_ n5_ n6_ n7_ n8_ n9_ n10_ n11_ n12_; clear hb hbox hg; have hnb47 := NB203_192.out; have hnc47 := NB192_203.out; have hnb48 := NB203_193.out; have hnc48 := NB193_203.out; have hcz49_0 : w46.cell? ⟨gb203, 0, none⟩ = some (.int .i64 0) := (blk_cell BK203.out 0).trans rfl; have hcz49_1 : w46.cell? ⟨gb203, 1, none⟩ = some (.int .i64 0) := (blk_cell BK203.out 1).trans rfl; have hcz49_2 : w46.cell? ⟨gb203, 2, none⟩ = some (.int .i64 0) := (blk_cell BK203.out 2).trans rfl; have hcz49_3 : w46.cell? ⟨gb203, 3, none⟩ = some (.int .i64 0) := (blk_cell BK203.out 3).trans rfl; have hfz49_0 := blk_frozen BK203.out 0; have hfz49_1 := blk_frozen BK203.out 1; have hfz49_2 := blk_frozen BK203.out 2; have hfz49_3 := blk_frozen BK203.out 3))
                have n0_ : Aside0 (Kd.R k54 54 ((((w46.setCell ⟨gb203, 0, none⟩ (.int .i64 ((rd_T54 x7_2 x30_3).f0))).setCell ⟨gb203, 1, none⟩ (.int .i64 ((rd_T54 x7_2 x30_3).f1))).setCell ⟨gb203, 2, none⟩ (.int .i64 ((rd_T54 x7_2 x30_3).f2))).setCell ⟨gb203, 3, none⟩ (.int .i64 ((rd_T54 x7_2 x30_3).f3))) w.heap.size (fun k_ => k_ ≠ gb203) (.slice (some ad202) x7_2.length co25) x7_2) := ⟨by (with_reducible repeat (first | apply Kd.R_alloc | apply Kd.R_drewN | apply Kd.R_drew)); exact Kd.R_mono (Kd.R_far (p := ⟨gb203, 3, none⟩) (Kd.R_far (p := ⟨gb203, 2, none⟩) (Kd.R_far (p := ⟨gb203, 1, none⟩) (Kd.R_far (p := ⟨gb203, 0, none⟩) (Kd.R_mono HO_7.out (fun k_ hk => (⟨hk, hk.2⟩ : _ ∧ k_ ≠ gb203))) (fun _ hk => hk.2) (.int .i64 ((rd_T54 x7_2 x30_3).f0))) (fun _ hk => hk.2) (.int .i64 ((rd_T54 x7_2 x30_3).f1))) (fun _ hk => hk.2) (.int .i64 ((rd_T54 x7_2 x30_3).f2))) (fun _ hk => hk.2) (.int .i64 ((rd_T54 x7_2 x30_3).f3))) (fun _ hk => hk.1.2)⟩
                have n1_ : Aside0 (Kd.R k56 56 ((((w46.setCell ⟨gb203, 0, none⟩ (.int .i64 ((rd_T54 x7_2 x30_3).f0))).setCell ⟨gb203, 1, none⟩ (.int .i64 ((rd_T54 x7_2 x30_3).f1))).setCell ⟨gb203, 2, none⟩ (.int .i64 ((rd_T54 x7_2 x30_3).f2))).setCell ⟨gb203, 3, none⟩ (.int .i64 ((rd_T54 x7_2 x30_3).f3))) w.heap.size (fun _ => True) u8 x8_2) := ⟨by (with_reducible repeat (first | apply Kd.R_alloc | apply Kd.R_drewN | apply Kd.R_drew)); exact Kd.R_mono (Kd.R_far (p := ⟨gb203, 3, none⟩) (Kd.R_far (p := ⟨gb203, 2, none⟩) (Kd.R_far (p := ⟨gb203, 1, none⟩) (Kd.R_far (p := ⟨gb203, 0, none⟩) (Kd.R_types HO_8.out BK203.out (by decide)) (fun _ hk => hk.2) (.int .i64 ((rd_T54 x7_2 x30_3).f0))) (fun _ hk => hk.2) (.int .i64 ((rd_T54 x7_2 x30_3).f1))) (fun _ hk => hk.2) (.int .i64 ((rd_T54 x7_2 x30_3).f2))) (fun _ hk => hk.2) (.int .i64 ((rd_T54 x7_2 x30_3).f3))) (fun _ hk => trivial)⟩
                have n2_ : Aside0 (Kd.R k54 54 ((((w46.setCell ⟨gb203, 0, none⟩ (.int .i64 ((rd_T54 x7_2 x30_3).f0))).setCell ⟨gb203, 1, none⟩ (.int .i64 ((rd_T54 x7_2 x30_3).f1))).setCell ⟨gb203, 2, none⟩ (.int .i64 ((rd_T54 x7_2 x30_3).f2))).setCell ⟨gb203, 3, none⟩ (.int .i64 ((rd_T54 x7_2 x30_3).f3))) w.heap.size (fun k_ => k_ ≠ gb203) (.slice (some ad202) x7_2.length co25) x7_2) := ⟨by (with_reducible repeat (first | apply Kd.R_alloc | apply Kd.R_drewN | apply Kd.R_drew)); exact Kd.R_mono (Kd.R_far (p := ⟨gb203, 3, none⟩) (Kd.R_far (p := ⟨gb203, 2, none⟩) (Kd.R_far (p := ⟨gb203, 1, none⟩) (Kd.R_far (p := ⟨gb203, 0, none⟩) (Kd.R_mono HO_28.out (fun k_ hk => (⟨hk, hk.2⟩ : _ ∧ k_ ≠ gb203))) (fun _ hk => hk.2) (.int .i64 ((rd_T54 x7_2 x30_3).f0))) (fun _ hk => hk.2) (.int .i64 ((rd_T54 x7_2 x30_3).f1))) (fun _ hk => hk.2) (.int .i64 ((rd_T54 x7_2 x30_3).f2))) (fun _ hk => hk.2) (.int .i64 ((rd_T54 x7_2 x30_3).f3))) (fun _ hk => hk.1.2)⟩
                have n3_ : Aside0 (((((w46.setCell ⟨gb203, 0, none⟩ (.int .i64 ((rd_T54 x7_2 x30_3).f0))).setCell ⟨gb203, 1, none⟩ (.int .i64 ((rd_T54 x7_2 x30_3).f1))).setCell ⟨gb203, 2, none⟩ (.int .i64 ((rd_T54 x7_2 x30_3).f2))).setCell ⟨gb203, 3, none⟩ (.int .i64 ((rd_T54 x7_2 x30_3).f3))).heap[gb192]? = some (.cells #[.int .i64 a0_0, .slice A0_1 l0_1.length c0_1] 31 (0, 0))) := ⟨by (with_reducible repeat (first | refine blk_drewN ?_ _ | refine blk_drew ?_ | refine blk_alloc ?_ _)); refine blk_far ?_ NB192_203.out _; (with_reducible repeat (first | refine blk_drewN ?_ _ | refine blk_drew ?_ | refine blk_alloc ?_ _)); refine blk_far ?_ NB192_203.out _; (with_reducible repeat (first | refine blk_drewN ?_ _ | refine blk_drew ?_ | refine blk_alloc ?_ _)); refine blk_far ?_ NB192_203.out _; (with_reducible repeat (first | refine blk_drewN ?_ _ | refine blk_drew ?_ | refine blk_alloc ?_ _)); refine blk_far ?_ NB192_203.out _; (with_reducible repeat (first | refine blk_drewN ?_ _ | refine blk_drew ?_ | refine blk_alloc ?_ _)); exact BK192.out⟩
                have n4_ : Aside0 (((((w46.setCell ⟨gb203, 0, none⟩ (.int .i64 ((rd_T54 x7_2 x30_3).f0))).setCell ⟨gb203, 1, none⟩ (.int .i64 ((rd_T54 x7_2 x30_3).f1))).setCell ⟨gb203, 2, none⟩ (.int .i64 ((rd_T54 x7_2 x30_3).f2))).setCell ⟨gb203, 3, none⟩ (.int .i64 ((rd_T54 x7_2 x30_3).f3))).heap[gb193]? = some (.cells #[.int .i64 x194000_2, .slice none 0 0] 31 (0, 0))) := ⟨by (with_reducible repeat (first | refine blk_drewN ?_ _ | refine blk_drew ?_ | refine blk_alloc ?_ _)); refine blk_far ?_ NB193_203.out _; (with_reducible repeat (first | refine blk_drewN ?_ _ | refine blk_drew ?_ | refine blk_alloc ?_ _)); refine blk_far ?_ NB193_203.out _; (with_reducible repeat (first | refine blk_drewN ?_ _ | refine blk_drew ?_ | refine blk_alloc ?_ _)); refine blk_far ?_ NB193_203.out _; (with_reducible repeat (first | refine blk_drewN ?_ _ | refine blk_drew ?_ | refine blk_alloc ?_ _)); refine blk_far ?_ NB193_203.out _; (with_reducible repeat (first | refine blk_drewN ?_ _ | refine blk_drew ?_ | refine blk_alloc ?_ _)); exact BK193.out⟩
                have n5_ : Aside0 (((((w46.setCell ⟨gb203, 0, none⟩ (.int .i64 ((rd_T54 x7_2 x30_3).f0))).setCell ⟨gb203, 1, none⟩ (.int .i64 ((rd_T54 x7_2 x30_3).f1))).setCell ⟨gb203, 2, none⟩ (.int .i64 ((rd_T54 x7_2 x30_3).f2))).setCell ⟨gb203, 3, none⟩ (.int .i64 ((rd_T54 x7_2 x30_3).f3))).heap[gb203]? = some (.cells #[.int .i64 ((rd_T54 x7_2 x30_3).f0), .int .i64 ((rd_T54 x7_2 x30_3).f1), .int .i64 ((rd_T54 x7_2 x30_3).f2), .int .i64 ((rd_T54 x7_2 x30_3).f3)] 54 (0, 0))) := ⟨by (with_reducible repeat (first | refine blk_drewN ?_ _ | refine blk_drew ?_ | refine blk_alloc ?_ _)); refine blk_put (cs := #[.int .i64 ((rd_T54 x7_2 x30_3).f0), .int .i64 ((rd_T54 x7_2 x30_3).f1), .int .i64 ((rd_T54 x7_2 x30_3).f2), .int .i64 0]) ?_ 3 _ rfl; (with_reducible repeat (first | refine blk_drewN ?_ _ | refine blk_drew ?_ | refine blk_alloc ?_ _)); refine blk_put (cs := #[.int .i64 ((rd_T54 x7_2 x30_3).f0), .int .i64 ((rd_T54 x7_2 x30_3).f1), .int .i64 0, .int .i64 0]) ?_ 2 _ rfl; (with_reducible repeat (first | refine blk_drewN ?_ _ | refine blk_drew ?_ | refine blk_alloc ?_ _)); refine blk_put (cs := #[.int .i64 ((rd_T54 x7_2 x30_3).f0), .int .i64 0, .int .i64 0, .int .i64 0]) ?_ 1 _ rfl; (with_reducible repeat (first | refine blk_drewN ?_ _ | refine blk_drew ?_ | refine blk_alloc ?_ _)); refine blk_put (cs := #[.int .i64 0, .int .i64 0, .int .i64 0, .int .i64 0]) ?_ 0 _ rfl; (with_reducible repeat (first | refine blk_drewN ?_ _ | refine blk_drew ?_ | refine blk_alloc ?_ _)); exact BK203.out⟩
                have n6_ : Aside0 (Below w.heap.size w ((((w46.setCell ⟨gb203, 0, none⟩ (.int .i64 ((rd_T54 x7_2 x30_3).f0))).setCell ⟨gb203, 1, none⟩ (.int .i64 ((rd_T54 x7_2 x30_3).f1))).setCell ⟨gb203, 2, none⟩ (.int .i64 ((rd_T54 x7_2 x30_3).f2))).setCell ⟨gb203, 3, none⟩ (.int .i64 ((rd_T54 x7_2 x30_3).f3)))) := ⟨blw⟩
                (try clear HO_7)
                (try clear HO_8)
                (try clear HO_28)
                (try clear BK192)
                (try clear BK193)
                (try clear BK203)
                (try clear HB)
                generalize ((((w46.setCell ⟨gb203, 0, none⟩ (.int .i64 ((rd_T54 x7_2 x30_3).f0))).setCell ⟨gb203, 1, none⟩ (.int .i64 ((rd_T54 x7_2 x30_3).f1))).setCell ⟨gb203, 2, none⟩ (.int .i64 ((rd_T54 x7_2 x30_3).f2))).setCell ⟨gb203, 3, none⟩ (.int .i64 ((rd_T54 x7_2 x30_3).f3))) = w50 at n0_ n1_ n2_ n3_ n4_ n5_ n6_ ⊢
                have HO_7 := n0_
                have HO_8 := n1_
                have HO_28 := n2_
                have BK192 := n3_
                have BK193 := n4_
                have BK203 := n5_
                have HB := n6_
                clear n0_ n1_ n2_ n3_ n4_ n5_ n6_
                have n0_ := Aside0.mk (Kd.R_drew HO_7.out)
                have n1_ := Aside0.mk (Kd.R_drew HO_8.out)
                have n2_ := Aside0.mk (Kd.R_drew HO_28.out)
                have n3_ := Aside0.mk (blk_drew BK192.out)
                have n4_ := Aside0.mk (blk_drew BK193.out)
                have n5_ := Aside0.mk (blk_drew BK203.out)
                have n6_ := Aside0.mk (below_drew1 HB.out)
                clear HO_7
                clear HO_8
                clear HO_28
                clear BK192
                clear BK193
                clear BK203
                clear HB
                have HO_7 := n0_
                have HO_8 := n1_
                have HO_28 := n2_
                have BK192 := n3_
                have BK193 := n4_
                have BK203 := n5_
                have HB := n6_
                clear n0_ n1_ n2_ n3_ n4_ n5_ n6_
                have p204 : 0 ≤ (x9_3 : Int) := odt
                have q204 : x9_3 < (x7_2.length : Int) := odt
                obtain ⟨ad204, e204, hx204_0, hx204_1, hx204_2, hx204_3⟩ := at_T54 (Kd.R_reads' HO_7.out).2.2 x9_3 p204 q204
                obtain rfl : ad202 = ad204 := (by injection e204)
                replace p204 := eq_true p204
                replace q204 := eq_true q204
                refine start_ (n := 18) (S := fun w' => w'.cell? ⟨gb203, 0, none⟩ = some (.int .i64 ((rd_T54 x7_2 x30_3).f0)) ∧ w'.cell? ⟨gb203, 1, none⟩ = some (.int .i64 ((rd_T54 x7_2 x30_3).f1)) ∧ w'.cell? ⟨gb203, 2, none⟩ = some (.int .i64 ((rd_T54 x7_2 x30_3).f2)) ∧ w'.cell? ⟨gb203, 3, none⟩ = some (.int .i64 ((rd_T54 x7_2 x30_3).f3)) ∧ w'.cell? (ad202.add ((x9_3).toNat * 4)) = some (.int .i64 ((rd_T54 x7_2 x9_3).f0)) ∧ w'.cell? ⟨(ad202.add ((x9_3).toNat * 4)).block, (ad202.add ((x9_3).toNat * 4)).off + 1, none⟩ = some (.int .i64 ((rd_T54 x7_2 x9_3).f1)) ∧ w'.cell? ⟨(ad202.add ((x9_3).toNat * 4)).block, (ad202.add ((x9_3).toNat * 4)).off + 2, none⟩ = some (.int .i64 ((rd_T54 x7_2 x9_3).f2)) ∧ w'.cell? ⟨(ad202.add ((x9_3).toNat * 4)).block, (ad202.add ((x9_3).toNat * 4)).off + 3, none⟩ = some (.int .i64 ((rd_T54 x7_2 x9_3).f3))) (ds := []) #[false, false, false, false, false, false, false, false, false, false, false, false, false, false, false, false, false, false] (by kernel_rfl) rfl rfl ⟨(blk_cell BK203.out 0).trans rfl, (blk_cell BK203.out 1).trans rfl, (blk_cell BK203.out 2).trans rfl, (blk_cell BK203.out 3).trans rfl, hx204_0, hx204_1, hx204_2, hx204_3⟩ (fun hHeld => ?_); refine with_tabW impl_RunClock.tab8 impl_RunClock.bits8 (fun HT_ HW_ => ?_)
                generalize w50.drew = w51 at HO_7 HO_8 HO_28 BK192 BK193 BK203 HB hx204_0 hx204_1 hx204_2 hx204_3 hHeld ⊢
                refine pure_ (i := 0) (N := some 35) (v := ?_) (a' := ?_) #[true, false, false, false, false, false, false, false, false, false, false, false, false, false, false, false, false, false] rfl rfl (any_of HT_.out (by kernel_rfl)) (fun _ _ _ h => h) (Or.inl ⟨by rfl, ?_⟩) ?_ ?_
                rotate_left; (· (intro w'; go_simp; with_reducible rfl)); rotate_left; (· (simp only [Act.put, sp1, sp2, sp3, i64_w, i32_w]; rfl))
                refine pure_ (i := 2) (N := some 37) (v := ?_) (a' := ?_) #[true, false, true, false, false, false, false, false, false, false, false, false, false, false, false, false, false, false] rfl rfl (any_of HT_.out (by kernel_rfl)) (fun _ _ _ h => h) (Or.inl ⟨by rfl, ?_⟩) ?_ ?_
                rotate_left; (· (intro w'; go_simp; with_reducible rfl)); rotate_left; (· (simp only [Act.put, sp1, sp2, sp3, i64_w, i32_w]; rfl))
                refine take_ (i := 1) (N := some 36) (v := ?_) (a' := ?_) #[true, true, true, false, false, false, false, false, false, false, false, false, false, false, false, false, false, false] rfl rfl (take_ofW HT_.out HW_.out (by kernel_rfl)) (fun _ _ _ h => h) (Or.inl ⟨by rfl, ?_⟩) hHeld ?_ ?_
                rotate_left; (· (rintro w' ⟨s0, s1, s2, s3, s4, s5, s6, s7⟩; go_simp; with_reducible rfl)); rotate_left; (· (simp only [Act.put, sp1, sp2, sp3, i64_w, i32_w]; rfl))
                refine pure_ (i := 3) (N := some 38) (v := ?_) (a' := ?_) #[true, true, true, true, false, false, false, false, false, false, false, false, false, false, false, false, false, false] rfl rfl (any_of HT_.out (by kernel_rfl)) (fun _ _ _ h => h) (Or.inl ⟨by rfl, ?_⟩) ?_ ?_
                rotate_left; (· (intro w'; go_simp; with_reducible rfl)); rotate_left; (· (simp only [Act.put, sp1, sp2, sp3, i64_w, i32_w]; rfl))
                refine pure_ (i := 4) (N := some 39) (v := ?_) (a' := ?_) #[true, true, true, true, true, false, false, false, false, false, false, false, false, false, false, false, false, false] rfl rfl (any_of HT_.out (by kernel_rfl)) (fun _ _ _ h => h) (Or.inl ⟨by rfl, ?_⟩) ?_ ?_
                rotate_left; (· (intro w'; go_simp; with_reducible rfl)); rotate_left; (· (simp only [Act.put, sp1, sp2, sp3, i64_w, i32_w]; rfl))
                refine pure_ (i := 5) (N := some 40) (v := ?_) (a' := ?_) #[true, true, true, true, true, true, false, false, false, false, false, false, false, false, false, false, false, false] rfl rfl (any_of HT_.out (by kernel_rfl)) (fun _ _ _ h => h) (Or.inl ⟨by rfl, ?_⟩) ?_ ?_
                rotate_left; (· (intro w'; go_simp; with_reducible rfl)); rotate_left; (· (simp only [Act.put, sp1, sp2, sp3, i64_w, i32_w]; rfl))
                refine pure_ (i := 6) (N := some 41) (v := ?_) (a' := ?_) #[true, true, true, true, true, true, true, false, false, false, false, false, false, false, false, false, false, false] rfl rfl (any_of HT_.out (by kernel_rfl)) (fun _ _ _ h => h) (Or.inl ⟨by rfl, ?_⟩) ?_ ?_
                rotate_left; (· (intro w'; go_simp; with_reducible rfl)); rotate_left; (· (simp only [Act.put, sp1, sp2, sp3, i64_w, i32_w]; rfl))
                refine pure_ (i := 7) (N := some 42) (v := ?_) (a' := ?_) #[true, true, true, true, true, true, true, true, false, false, false, false, false, false, false, false, false, false] rfl rfl (any_of HT_.out (by kernel_rfl)) (fun _ _ _ h => h) (Or.inl ⟨by rfl, ?_⟩) ?_ ?_
                rotate_left; (· (intro w'; go_simp; with_reducible rfl)); rotate_left; (· (simp only [Act.put, sp1, sp2, sp3, i64_w, i32_w]; rfl))
                refine pure_ (i := 8) (N := some 43) (v := ?_) (a' := ?_) #[true, true, true, true, true, true, true, true, true, false, false, false, false, false, false, false, false, false] rfl rfl (any_of HT_.out (by kernel_rfl)) (fun _ _ _ h => h) (Or.inl ⟨by rfl, ?_⟩) ?_ ?_
                rotate_left; (· (intro w'; go_simp; with_reducible rfl)); rotate_left; (· (simp only [Act.put, sp1, sp2, sp3, i64_w, i32_w]; rfl))
                refine pure_ (i := 10) (N := some 45) (v := ?_) (a' := ?_) #[true, true, true, true, true, true, true, true, true, false, true, false, false, false, false, false, false, false] rfl rfl (any_of HT_.out (by kernel_rfl)) (fun _ _ _ h => h) (Or.inl ⟨by rfl, ?_⟩) ?_ ?_
                rotate_left; (· (intro w'; go_simp; with_reducible rfl)); rotate_left; (· (simp only [Act.put, sp1, sp2, sp3, i64_w, i32_w]; rfl))
                refine pure_ (i := 11) (N := some 46) (v := ?_) (a' := ?_) #[true, true, true, true, true, true, true, true, true, false, true, true, false, false, false, false, false, false] rfl rfl (any_of HT_.out (by kernel_rfl)) (fun _ _ _ h => h) (Or.inl ⟨by rfl, ?_⟩) ?_ ?_
                rotate_left; (· (intro w'; go_simp; with_reducible rfl)); rotate_left; (· (simp only [Act.put, sp1, sp2, sp3, i64_w, i32_w]; rfl))
                refine pure_ (i := 12) (N := some 47) (v := ?_) (a' := ?_) #[true, true, true, true, true, true, true, true, true, false, true, true, true, false, false, false, false, false] rfl rfl (any_of HT_.out (by kernel_rfl)) (fun _ _ _ h => h) (Or.inl ⟨by rfl, ?_⟩) ?_ ?_
                rotate_left; (· (intro w'; go_simp; with_reducible rfl)); rotate_left; (· (simp only [Act.put, sp1, sp2, sp3, i64_w, i32_w]; rfl))
                refine pure_ (i := 13) (N := some 48) (v := ?_) (a' := ?_) #[true, true, true, true, true, true, true, true, true, false, true, true, true, true, false, false, false, false] rfl rfl (any_of HT_.out (by kernel_rfl)) (fun _ _ _ h => h) (Or.inl ⟨by rfl, ?_⟩) ?_ ?_
                rotate_left; (· (intro w'; go_simp; with_reducible rfl)); rotate_left; (· (simp only [Act.put, sp1, sp2, sp3, i64_w, i32_w]; rfl))
                refine take_ (i := 9) (N := some 44) (v := ?_) (a' := ?_) #[true, true, true, true, true, true, true, true, true, true, true, true, true, true, false, false, false, false] rfl rfl (take_ofW HT_.out HW_.out (by kernel_rfl)) (fun _ _ _ h => h) (Or.inl ⟨by rfl, ?_⟩) hHeld ?_ ?_
                rotate_left; (· (rintro w' ⟨s0, s1, s2, s3, s4, s5, s6, s7⟩; go_simp; with_reducible rfl)); rotate_left; (· (simp only [Act.put, sp1, sp2, sp3, i64_w, i32_w]; rfl))
                refine take_ (i := 14) (N := some 49) (v := ?_) (a' := ?_) #[true, true, true, true, true, true, true, true, true, true, true, true, true, true, true, false, false, false] rfl rfl (take_ofW HT_.out HW_.out (by kernel_rfl)) (fun _ _ _ h => h) (Or.inl ⟨by rfl, ?_⟩) hHeld ?_ ?_
                rotate_left; (· (rintro w' ⟨s0, s1, s2, s3, s4, s5, s6, s7⟩; go_simp; with_reducible rfl)); rotate_left; (· (simp only [Act.put, sp1, sp2, sp3, i64_w, i32_w]; rfl))
                refine pure_ (i := 15) (N := some 50) (v := ?_) (a' := ?_) #[true, true, true, true, true, true, true, true, true, true, true, true, true, true, true, true, false, false] rfl rfl (any_of HT_.out (by kernel_rfl)) (fun _ _ _ h => h) (Or.inl ⟨by rfl, ?_⟩) ?_ ?_
                rotate_left; (· (intro w'; go_simp; with_reducible rfl)); rotate_left; (· (simp only [Act.put, sp1, sp2, sp3, i64_w, i32_w]; rfl))
                refine pure_ (i := 16) (N := some 51) (v := ?_) (a' := ?_) #[true, true, true, true, true, true, true, true, true, true, true, true, true, true, true, true, true, false] rfl rfl (any_of HT_.out (by kernel_rfl)) (fun _ _ _ h => h) (Or.inl ⟨by rfl, ?_⟩) ?_ ?_
                rotate_left; (· (intro w'; go_simp; with_reducible rfl)); rotate_left; (· (simp only [Act.put, sp1, sp2, sp3, i64_w, i32_w]; rfl))
                refine pure_ (i := 17) (N := some 52) (v := ?_) (a' := ?_) #[true, true, true, true, true, true, true, true, true, true, true, true, true, true, true, true, true, true] rfl rfl (any_of HT_.out (by kernel_rfl)) (fun _ _ _ h => h) (Or.inl ⟨by rfl, ?_⟩) ?_ ?_
                rotate_left; (· (intro w'; go_simp; with_reducible rfl)); rotate_left; (· (simp only [Act.put, sp1, sp2, sp3, i64_w, i32_w]; rfl))
                refine done_ (done_of HT_.out (by kernel_rfl)) ?_
                try go_wp2
                go_roundg k3
                case measure => have := HJ2.out; have := HK2.out; have := HK3.out; omega
                case rel => exact ⟨(x9_3), (wrap64 (x30_3 + 1)), (by first | rfl | (simp; done) | (simp [*]; done)), (by first | rfl | (simp; done) | (simp [*]; done)), H', ⟨by have := HJ2.out; have := HK2.out; have := HK3.out; omega⟩, ⟨by (with_reducible repeat (first | apply Kd.R_alloc | apply Kd.R_drewN | apply Kd.R_drew)); exact Kd.R_mono HO_7.out (fun _ hk => trivial)⟩, ⟨by (with_reducible repeat (first | apply Kd.R_alloc | apply Kd.R_drewN | apply Kd.R_drew)); exact HO_8.out⟩, ⟨by (with_reducible repeat (first | apply Kd.R_alloc | apply Kd.R_drewN | apply Kd.R_drew)); exact Kd.R_mono HO_28.out (fun _ hk => trivial)⟩, ⟨by (with_reducible repeat (first | refine blk_drewN ?_ _ | refine blk_drew ?_ | refine blk_alloc ?_ _)); exact BK192.out⟩, ⟨by (with_reducible repeat (first | refine blk_drewN ?_ _ | refine blk_drew ?_ | refine blk_alloc ?_ _)); exact BK193.out⟩, ⟨blw⟩⟩
              ·rw [if_neg c38] at H
               exact absurd H (by simp)
             ·rw [if_neg c37] at H
              exact absurd H (by simp)
           ·rw [if_neg c29] at H
            have c29b0 : decide (((rd_T54 x7_2 x30_3).f1) ≤ a1) = false := decide_eq_false c29
            clear c29
            have H' := Aside0.mk H
            clear H
            have p202 : 0 ≤ (x30_3 : Int) := odt
            have q202 : x30_3 < (x7_2.length : Int) := odt
            obtain ⟨ad202, e202, hx202_0, hx202_1, hx202_2, hx202_3⟩ := at_T54 (Kd.R_reads' HO_28.out).2.2 x30_3 p202 q202
            cases e202
            replace p202 := eq_true p202
            replace q202 := eq_true q202
            try go_wp2_with (first | ((with_reducible refine gate_dst (N := 11) rfl ?_); refine box_event ?hg (N := 11) ?hd (cs := #[.int .i64 0, .int .i64 0, .int .i64 0, .int .i64 0]) (t := 54) ?hr ?_; (case hd => rfl); (case hg => rfl); (case hr => first | (go_simp; done) | (go_simp; rfl)); intro gb203 hg w52 hbox hb; have n0_ := Aside0.mk (Kd.R_below (Kd.R_elderB (by (with_reducible repeat (first | apply Kd.R_alloc | apply Kd.R_drewN | apply Kd.R_drew)); exact HO_7.out) gb203 (Nat.le_of_eq hg.symm)) hb); have n1_ := Aside0.mk (Kd.R_below (by (with_reducible repeat (first | apply Kd.R_alloc | apply Kd.R_drewN | apply Kd.R_drew)); exact HO_8.out) hb); have n2_ := Aside0.mk (Kd.R_below (Kd.R_elderB (by (with_reducible repeat (first | apply Kd.R_alloc | apply Kd.R_drewN | apply Kd.R_drew)); exact HO_28.out) gb203 (Nat.le_of_eq hg.symm)) hb); have n3_ := Aside0.mk (blk_below (g := gb192) (o := .cells #[.int .i64 a0_0, .slice A0_1 l0_1.length c0_1] 31 (0, 0)) bkw hb); have n4_ := Aside0.mk (blk_below (g := gb193) (o := .cells #[.int .i64 x194000_2, .slice none 0 0] 31 (0, 0)) bkw hb); have n5_ := Aside0.mk (below_step blw hb); have n6_ := Aside0.mk (hbox); have n7_ := Aside0.mk ((by rw [hg]; exact (below_size blw) : w.heap.size ≤ gb203)); have n8_ := Aside0.mk ((by rw [hg]; exact (below_size blw) : w.heap.size ≤ gb203)); have n9_ := Aside0.mk ((by rw [hg]; exact Nat.ne_of_lt (blk_lt (g := gb192) (o := .cells #[.int .i64 a0_0, .slice A0_1 l0_1.length c0_1] 31 (0, 0)) bkw) : gb192 ≠ gb203)); have n10_ := Aside0.mk ((by rw [hg]; exact Nat.ne_of_gt (blk_lt (g := gb192) (o := .cells #[.int .i64 a0_0, .slice A0_1 l0_1.length c0_1] 31 (0, 0)) bkw) : gb203 ≠ gb192)); have n11_ := Aside0.mk ((by rw [hg]; exact Nat.ne_of_lt (blk_lt (g := gb193) (o := .cells #[.int .i64 x194000_2, .slice none 0 0] 31 (0, 0)) bkw) : gb193 ≠ gb203)); have n12_ := Aside0.mk ((by rw [hg]; exact Nat.ne_of_gt (blk_lt (g := gb193) (o := .cells #[.int .i64 x194000_2, .slice none 0 0] 31 (0, 0)) bkw) : gb203 ≠ gb193)); clear HO_7; clear HO_8; clear HO_28; clear BK192; clear BK193; clear HB; have HO_7 := n0_; have HO_8 := n1_; have HO_28 := n2_; have BK192 := n3_; have BK193 := n4_; have HB := n5_; have BK203 := n6_; have GW203 := n7_; have GE203 := n8_; have NB192_203 := n9_; have NB203_192 := n10_; have NB193_203 := n11_; have NB203_193 := n12_; clear n0_ n1_ n2_ n3_ n4_ n5_ n6_ n7_ n8_ n9_ n10_ n11_ n12_; clear hb hbox hg; have hnb53 := NB203_192.out; have hnc53 := NB192_203.out; have hnb54 := NB203_193.out; have hnc54 := NB193_203.out; have hcz55_0 : w52.cell? ⟨gb203, 0, none⟩ = some (.int .i64 0) := (blk_cell BK203.out 0).trans rfl; have hcz55_1 : w52.cell? ⟨gb203, 1, none⟩ = some (.int .i64 0) := (blk_cell BK203.out 1).trans rfl; have hcz55_2 : w52.cell? ⟨gb203, 2, none⟩ = some (.int .i64 0) := (blk_cell BK203.out 2).trans rfl; have hcz55_3 : w52.cell? ⟨gb203, 3, none⟩ = some (.int .i64 0) := (blk_cell BK203.out 3).trans rfl; have hfz55_0 := blk_frozen BK203.out 0; have hfz55_1 := blk_frozen BK203.out 1; have hfz55_2 := blk_frozen BK203.out 2; have hfz55_3 := blk_frozen BK203.out 3))
            have n0_ : Aside0 (Kd.R k54 54 ((((w52.setCell ⟨gb203, 0, none⟩ (.int .i64 ((rd_T54 x7_2 x30_3).f0))).setCell ⟨gb203, 1, none⟩ (.int .i64 ((rd_T54 x7_2 x30_3).f1))).setCell ⟨gb203, 2, none⟩ (.int .i64 ((rd_T54 x7_2 x30_3).f2))).setCell ⟨gb203, 3, none⟩ (.int .i64 ((rd_T54 x7_2 x30_3).f3))) w.heap.size (fun k_ => k_ ≠ gb203) (.slice (some ad202) x7_2.length co25) x7_2) := ⟨by (with_reducible repeat (first | apply Kd.R_alloc | apply Kd.R_drewN | apply Kd.R_drew)); exact Kd.R_mono (Kd.R_far (p := ⟨gb203, 3, none⟩) (Kd.R_far (p := ⟨gb203, 2, none⟩) (Kd.R_far (p := ⟨gb203, 1, none⟩) (Kd.R_far (p := ⟨gb203, 0, none⟩) (Kd.R_mono HO_7.out (fun k_ hk => (⟨hk, hk.2⟩ : _ ∧ k_ ≠ gb203))) (fun _ hk => hk.2) (.int .i64 ((rd_T54 x7_2 x30_3).f0))) (fun _ hk => hk.2) (.int .i64 ((rd_T54 x7_2 x30_3).f1))) (fun _ hk => hk.2) (.int .i64 ((rd_T54 x7_2 x30_3).f2))) (fun _ hk => hk.2) (.int .i64 ((rd_T54 x7_2 x30_3).f3))) (fun _ hk => hk.1.2)⟩
            have n1_ : Aside0 (Kd.R k56 56 ((((w52.setCell ⟨gb203, 0, none⟩ (.int .i64 ((rd_T54 x7_2 x30_3).f0))).setCell ⟨gb203, 1, none⟩ (.int .i64 ((rd_T54 x7_2 x30_3).f1))).setCell ⟨gb203, 2, none⟩ (.int .i64 ((rd_T54 x7_2 x30_3).f2))).setCell ⟨gb203, 3, none⟩ (.int .i64 ((rd_T54 x7_2 x30_3).f3))) w.heap.size (fun _ => True) u8 x8_2) := ⟨by (with_reducible repeat (first | apply Kd.R_alloc | apply Kd.R_drewN | apply Kd.R_drew)); exact Kd.R_mono (Kd.R_far (p := ⟨gb203, 3, none⟩) (Kd.R_far (p := ⟨gb203, 2, none⟩) (Kd.R_far (p := ⟨gb203, 1, none⟩) (Kd.R_far (p := ⟨gb203, 0, none⟩) (Kd.R_types HO_8.out BK203.out (by decide)) (fun _ hk => hk.2) (.int .i64 ((rd_T54 x7_2 x30_3).f0))) (fun _ hk => hk.2) (.int .i64 ((rd_T54 x7_2 x30_3).f1))) (fun _ hk => hk.2) (.int .i64 ((rd_T54 x7_2 x30_3).f2))) (fun _ hk => hk.2) (.int .i64 ((rd_T54 x7_2 x30_3).f3))) (fun _ hk => trivial)⟩
            have n2_ : Aside0 (Kd.R k54 54 ((((w52.setCell ⟨gb203, 0, none⟩ (.int .i64 ((rd_T54 x7_2 x30_3).f0))).setCell ⟨gb203, 1, none⟩ (.int .i64 ((rd_T54 x7_2 x30_3).f1))).setCell ⟨gb203, 2, none⟩ (.int .i64 ((rd_T54 x7_2 x30_3).f2))).setCell ⟨gb203, 3, none⟩ (.int .i64 ((rd_T54 x7_2 x30_3).f3))) w.heap.size (fun k_ => k_ ≠ gb203) (.slice (some ad202) x7_2.length co25) x7_2) := ⟨by (with_reducible repeat (first | apply Kd.R_alloc | apply Kd.R_drewN | apply Kd.R_drew)); exact Kd.R_mono (Kd.R_far (p := ⟨gb203, 3, none⟩) (Kd.R_far (p := ⟨gb203, 2, none⟩) (Kd.R_far (p := ⟨gb203, 1, none⟩) (Kd.R_far (p := ⟨gb203, 0, none⟩) (Kd.R_mono HO_28.out (fun k_ hk => (⟨hk, hk.2⟩ : _ ∧ k_ ≠ gb203))) (fun _ hk => hk.2) (.int .i64 ((rd_T54 x7_2 x30_3).f0))) (fun _ hk => hk.2) (.int .i64 ((rd_T54 x7_2 x30_3).f1))) (fun _ hk => hk.2) (.int .i64 ((rd_T54 x7_2 x30_3).f2))) (fun _ hk => hk.2) (.int .i64 ((rd_T54 x7_2 x30_3).f3))) (fun _ hk => hk.1.2)⟩
            have n3_ : Aside0 (((((w52.setCell ⟨gb203, 0, none⟩ (.int .i64 ((rd_T54 x7_2 x30_3).f0))).setCell ⟨gb203, 1, none⟩ (.int .i64 ((rd_T54 x7_2 x30_3).f1))).setCell ⟨gb203, 2, none⟩ (.int .i64 ((rd_T54 x7_2 x30_3).f2))).setCell ⟨gb203, 3, none⟩ (.int .i64 ((rd_T54 x7_2 x30_3).f3))).heap[gb192]? = some (.cells #[.int .i64 a0_0, .slice A0_1 l0_1.length c0_1] 31 (0, 0))) := ⟨by (with_reducible repeat (first | refine blk_drewN ?_ _ | refine blk_drew ?_ | refine blk_alloc ?_ _)); refine blk_far ?_ NB192_203.out _; (with_reducible repeat (first | refine blk_drewN ?_ _ | refine blk_drew ?_ | refine blk_alloc ?_ _)); refine blk_far ?_ NB192_203.out _; (with_reducible repeat (first | refine blk_drewN ?_ _ | refine blk_drew ?_ | refine blk_alloc ?_ _)); refine blk_far ?_ NB192_203.out _; (with_reducible repeat (first | refine blk_drewN ?_ _ | refine blk_drew ?_ | refine blk_alloc ?_ _)); refine blk_far ?_ NB192_203.out _; (with_reducible repeat (first | refine blk_drewN ?_ _ | refine blk_drew ?_ | refine blk_alloc ?_ _)); exact BK192.out⟩
            have n4_ : Aside0 (((((w52.setCell ⟨gb203, 0, none⟩ (.int .i64 ((rd_T54 x7_2 x30_3).f0))).setCell ⟨gb203, 1, none⟩ (.int .i64 ((rd_T54 x7_2 x30_3).f1))).setCell ⟨gb203, 2, none⟩ (.int .i64 ((rd_T54 x7_2 x30_3).f2))).setCell ⟨gb203, 3, none⟩ (.int .i64 ((rd_T54 x7_2 x30_3).f3))).heap[gb193]? = some (.cells #[.int .i64 x194000_2, .slice none 0 0] 31 (0, 0))) := ⟨by (with_reducible repeat (first | refine blk_drewN ?_ _ | refine blk_drew ?_ | refine blk_alloc ?_ _)); refine blk_far ?_ NB193_203.out _; (with_reducible repeat (first | refine blk_drewN ?_ _ | refine blk_drew ?_ | refine blk_alloc ?_ _)); refine blk_far ?_ NB193_203.out _; (with_reducible repeat (first | refine blk_drewN ?_ _ | refine blk_drew ?_ | refine blk_alloc ?_ _)); refine blk_far ?_ NB193_203.out _; (with_reducible repeat (first | refine blk_drewN ?_ _ | refine blk_drew ?_ | refine blk_alloc ?_ _)); refine blk_far ?_ NB193_203.out _; (with_reducible repeat (first | refine blk_drewN ?_ _ | refine blk_drew ?_ | refine blk_alloc ?_ _)); exact BK193.out⟩
            have n5_ : Aside0 (((((w52.setCell ⟨gb203, 0, none⟩ (.int .i64 ((rd_T54 x7_2 x30_3).f0))).setCell ⟨gb203, 1, none⟩ (.int .i64 ((rd_T54 x7_2 x30_3).f1))).setCell ⟨gb203, 2, none⟩ (.int .i64 ((rd_T54 x7_2 x30_3).f2))).setCell ⟨gb203, 3, none⟩ (.int .i64 ((rd_T54 x7_2 x30_3).f3))).heap[gb203]? = some (.cells #[.int .i64 ((rd_T54 x7_2 x30_3).f0), .int .i64 ((rd_T54 x7_2 x30_3).f1), .int .i64 ((rd_T54 x7_2 x30_3).f2), .int .i64 ((rd_T54 x7_2 x30_3).f3)] 54 (0, 0))) := ⟨by (with_reducible repeat (first | refine blk_drewN ?_ _ | refine blk_drew ?_ | refine blk_alloc ?_ _)); refine blk_put (cs := #[.int .i64 ((rd_T54 x7_2 x30_3).f0), .int .i64 ((rd_T54 x7_2 x30_3).f1), .int .i64 ((rd_T54 x7_2 x30_3).f2), .int .i64 0]) ?_ 3 _ rfl; (with_reducible repeat (first | refine blk_drewN ?_ _ | refine blk_drew ?_ | refine blk_alloc ?_ _)); refine blk_put (cs := #[.int .i64 ((rd_T54 x7_2 x30_3).f0), .int .i64 ((rd_T54 x7_2 x30_3).f1), .int .i64 0, .int .i64 0]) ?_ 2 _ rfl; (with_reducible repeat (first | refine blk_drewN ?_ _ | refine blk_drew ?_ | refine blk_alloc ?_ _)); refine blk_put (cs := #[.int .i64 ((rd_T54 x7_2 x30_3).f0), .int .i64 0, .int .i64 0, .int .i64 0]) ?_ 1 _ rfl; (with_reducible repeat (first | refine blk_drewN ?_ _ | refine blk_drew ?_ | refine blk_alloc ?_ _)); refine blk_put (cs := #[.int .i64 0, .int .i64 0, .int .i64 0, .int .i64 0]) ?_ 0 _ rfl; (with_reducible repeat (first | refine blk_drewN ?_ _ | refine blk_drew ?_ | refine blk_alloc ?_ _)); exact BK203.out⟩
            have n6_ : Aside0 (Below w.heap.size w ((((w52.setCell ⟨gb203, 0, none⟩ (.int .i64 ((rd_T54 x7_2 x30_3).f0))).setCell ⟨gb203, 1, none⟩ (.int .i64 ((rd_T54 x7_2 x30_3).f1))).setCell ⟨gb203, 2, none⟩ (.int .i64 ((rd_T54 x7_2 x30_3).f2))).setCell ⟨gb203, 3, none⟩ (.int .i64 ((rd_T54 x7_2 x30_3).f3)))) := ⟨blw⟩
            (try clear HO_7)
            (try clear HO_8)
            (try clear HO_28)
            (try clear BK192)
            (try clear BK193)
            (try clear BK203)
            (try clear HB)
            generalize ((((w52.setCell ⟨gb203, 0, none⟩ (.int .i64 ((rd_T54 x7_2 x30_3).f0))).setCell ⟨gb203, 1, none⟩ (.int .i64 ((rd_T54 x7_2 x30_3).f1))).setCell ⟨gb203, 2, none⟩ (.int .i64 ((rd_T54 x7_2 x30_3).f2))).setCell ⟨gb203, 3, none⟩ (.int .i64 ((rd_T54 x7_2 x30_3).f3))) = w56 at n0_ n1_ n2_ n3_ n4_ n5_ n6_ ⊢
            have HO_7 := n0_
            have HO_8 := n1_
            have HO_28 := n2_
            have BK192 := n3_
            have BK193 := n4_
            have BK203 := n5_
            have HB := n6_
            clear n0_ n1_ n2_ n3_ n4_ n5_ n6_
            have n0_ := Aside0.mk (Kd.R_drew HO_7.out)
            have n1_ := Aside0.mk (Kd.R_drew HO_8.out)
            have n2_ := Aside0.mk (Kd.R_drew HO_28.out)
            have n3_ := Aside0.mk (blk_drew BK192.out)
            have n4_ := Aside0.mk (blk_drew BK193.out)
            have n5_ := Aside0.mk (blk_drew BK203.out)
            have n6_ := Aside0.mk (below_drew1 HB.out)
            clear HO_7
            clear HO_8
            clear HO_28
            clear BK192
            clear BK193
            clear BK203
            clear HB
            have HO_7 := n0_
            have HO_8 := n1_
            have HO_28 := n2_
            have BK192 := n3_
            have BK193 := n4_
            have BK203 := n5_
            have HB := n6_
            clear n0_ n1_ n2_ n3_ n4_ n5_ n6_
            refine start_ (n := 18) (S := fun w' => w'.cell? ⟨gb203, 0, none⟩ = some (.int .i64 ((rd_T54 x7_2 x30_3).f0)) ∧ w'.cell? ⟨gb203, 1, none⟩ = some (.int .i64 ((rd_T54 x7_2 x30_3).f1)) ∧ w'.cell? ⟨gb203, 2, none⟩ = some (.int .i64 ((rd_T54 x7_2 x30_3).f2)) ∧ w'.cell? ⟨gb203, 3, none⟩ = some (.int .i64 ((rd_T54 x7_2 x30_3).f3))) (ds := []) #[false, false, false, false, false, false, false, false, false, false, false, false, false, false, false, false, false, false] (by kernel_rfl) rfl rfl ⟨(blk_cell BK203.out 0).trans rfl, (blk_cell BK203.out 1).trans rfl, (blk_cell BK203.out 2).trans rfl, (blk_cell BK203.out 3).trans rfl⟩ (fun hHeld => ?_); refine with_tabW impl_RunClock.tab8 impl_RunClock.bits8 (fun HT_ HW_ => ?_)
            generalize w56.drew = w57 at HO_7 HO_8 HO_28 BK192 BK193 BK203 HB hHeld ⊢
            refine pure_ (i := 0) (N := some 35) (v := ?_) (a' := ?_) #[true, false, false, false, false, false, false, false, false, false, false, false, false, false, false, false, false, false] rfl rfl (any_of HT_.out (by kernel_rfl)) (fun _ _ _ h => h) (Or.inl ⟨by rfl, ?_⟩) ?_ ?_
            rotate_left; (· (intro w'; go_simp; with_reducible rfl)); rotate_left; (· (simp only [Act.put, sp1, sp2, sp3, i64_w, i32_w]; rfl))
            refine pure_ (i := 2) (N := some 37) (v := ?_) (a' := ?_) #[true, false, true, false, false, false, false, false, false, false, false, false, false, false, false, false, false, false] rfl rfl (any_of HT_.out (by kernel_rfl)) (fun _ _ _ h => h) (Or.inl ⟨by rfl, ?_⟩) ?_ ?_
            rotate_left; (· (intro w'; go_simp; with_reducible rfl)); rotate_left; (· (simp only [Act.put, sp1, sp2, sp3, i64_w, i32_w]; rfl))
            refine take_ (i := 1) (N := some 36) (v := ?_) (a' := ?_) #[true, true, true, false, false, false, false, false, false, false, false, false, false, false, false, false, false, false] rfl rfl (take_ofW HT_.out HW_.out (by kernel_rfl)) (fun _ _ _ h => h) (Or.inl ⟨by rfl, ?_⟩) hHeld ?_ ?_
            rotate_left; (· (rintro w' ⟨s0, s1, s2, s3⟩; go_simp; with_reducible rfl)); rotate_left; (· (simp only [Act.put, sp1, sp2, sp3, i64_w, i32_w]; rfl))
            refine pure_ (i := 3) (N := some 38) (v := ?_) (a' := ?_) #[true, true, true, true, false, false, false, false, false, false, false, false, false, false, false, false, false, false] rfl rfl (any_of HT_.out (by kernel_rfl)) (fun _ _ _ h => h) (Or.inl ⟨by rfl, ?_⟩) ?_ ?_
            rotate_left; (· (intro w'; go_simp; with_reducible rfl)); rotate_left; (· (simp only [Act.put, sp1, sp2, sp3, i64_w, i32_w]; rfl))
            refine pure_ (i := 4) (N := some 39) (v := ?_) (a' := ?_) #[true, true, true, true, true, false, false, false, false, false, false, false, false, false, false, false, false, false] rfl rfl (any_of HT_.out (by kernel_rfl)) (fun _ _ _ h => h) (Or.inl ⟨by rfl, ?_⟩) ?_ ?_
            rotate_left; (· (intro w'; go_simp; with_reducible rfl)); rotate_left; (· (simp only [Act.put, sp1, sp2, sp3, i64_w, i32_w]; rfl))
            refine pure_ (i := 5) (N := some 40) (v := undef) (a' := ?_) #[true, true, true, true, true, true, false, false, false, false, false, false, false, false, false, false, false, false] rfl rfl (any_of HT_.out (by kernel_rfl)) (fun _ _ _ h => h) (Or.inr ⟨by rfl, rfl⟩) ?_ ?_
            rotate_left
            ·simp only [Act.put, sp1, sp2, sp3, i64_w, i32_w]
             rfl
            refine pure_ (i := 6) (N := some 41) (v := undef) (a' := ?_) #[true, true, true, true, true, true, true, false, false, false, false, false, false, false, false, false, false, false] rfl rfl (any_of HT_.out (by kernel_rfl)) (fun _ _ _ h => h) (Or.inr ⟨by rfl, rfl⟩) ?_ ?_
            rotate_left
            ·simp only [Act.put, sp1, sp2, sp3, i64_w, i32_w]
             rfl
            refine pure_ (i := 7) (N := some 42) (v := undef) (a' := ?_) #[true, true, true, true, true, true, true, true, false, false, false, false, false, false, false, false, false, false] rfl rfl (any_of HT_.out (by kernel_rfl)) (fun _ _ _ h => h) (Or.inr ⟨by rfl, rfl⟩) ?_ ?_
            rotate_left
            ·simp only [Act.put, sp1, sp2, sp3, i64_w, i32_w]
             rfl
            refine pure_ (i := 8) (N := some 43) (v := undef) (a' := ?_) #[true, true, true, true, true, true, true, true, true, false, false, false, false, false, false, false, false, false] rfl rfl (any_of HT_.out (by kernel_rfl)) (fun _ _ _ h => h) (Or.inr ⟨by rfl, rfl⟩) ?_ ?_
            rotate_left
            ·simp only [Act.put, sp1, sp2, sp3, i64_w, i32_w]
             rfl
            refine pure_ (i := 9) (N := some 44) (v := undef) (a' := ?_) #[true, true, true, true, true, true, true, true, true, true, false, false, false, false, false, false, false, false] rfl rfl (any_of HT_.out (by kernel_rfl)) (fun _ _ _ h => h) (Or.inr ⟨by rfl, rfl⟩) ?_ ?_
            rotate_left
            ·simp only [Act.put, sp1, sp2, sp3, i64_w, i32_w]
             rfl
            refine pure_ (i := 10) (N := some 45) (v := undef) (a' := ?_) #[true, true, true, true, true, true, true, true, true, true, true, false, false, false, false, false, false, false] rfl rfl (any_of HT_.out (by kernel_rfl)) (fun _ _ _ h => h) (Or.inr ⟨by rfl, rfl⟩) ?_ ?_
            rotate_left
            ·simp only [Act.put, sp1, sp2, sp3, i64_w, i32_w]
             rfl
            refine pure_ (i := 11) (N := some 46) (v := undef) (a' := ?_) #[true, true, true, true, true, true, true, true, true, true, true, true, false, false, false, false, false, false] rfl rfl (any_of HT_.out (by kernel_rfl)) (fun _ _ _ h => h) (Or.inr ⟨by rfl, rfl⟩) ?_ ?_
            rotate_left
            ·simp only [Act.put, sp1, sp2, sp3, i64_w, i32_w]
             rfl
            refine pure_ (i := 12) (N := some 47) (v := undef) (a' := ?_) #[true, true, true, true, true, true, true, true, true, true, true, true, true, false, false, false, false, false] rfl rfl (any_of HT_.out (by kernel_rfl)) (fun _ _ _ h => h) (Or.inr ⟨by rfl, rfl⟩) ?_ ?_
            rotate_left
            ·simp only [Act.put, sp1, sp2, sp3, i64_w, i32_w]
             rfl
            refine pure_ (i := 13) (N := some 48) (v := undef) (a' := ?_) #[true, true, true, true, true, true, true, true, true, true, true, true, true, true, false, false, false, false] rfl rfl (any_of HT_.out (by kernel_rfl)) (fun _ _ _ h => h) (Or.inr ⟨by rfl, rfl⟩) ?_ ?_
            rotate_left
            ·simp only [Act.put, sp1, sp2, sp3, i64_w, i32_w]
             rfl
            refine pure_ (i := 14) (N := some 49) (v := undef) (a' := ?_) #[true, true, true, true, true, true, true, true, true, true, true, true, true, true, true, false, false, false] rfl rfl (any_of HT_.out (by kernel_rfl)) (fun _ _ _ h => h) (Or.inr ⟨by rfl, rfl⟩) ?_ ?_
            rotate_left
            ·simp only [Act.put, sp1, sp2, sp3, i64_w, i32_w]
             rfl
            refine pure_ (i := 15) (N := some 50) (v := undef) (a' := ?_) #[true, true, true, true, true, true, true, true, true, true, true, true, true, true, true, true, false, false] rfl rfl (any_of HT_.out (by kernel_rfl)) (fun _ _ _ h => h) (Or.inr ⟨by rfl, rfl⟩) ?_ ?_
            rotate_left
            ·simp only [Act.put, sp1, sp2, sp3, i64_w, i32_w]
             rfl
            refine pure_ (i := 16) (N := some 51) (v := undef) (a' := ?_) #[true, true, true, true, true, true, true, true, true, true, true, true, true, true, true, true, true, false] rfl rfl (any_of HT_.out (by kernel_rfl)) (fun _ _ _ h => h) (Or.inr ⟨by rfl, rfl⟩) ?_ ?_
            rotate_left
            ·simp only [Act.put, sp1, sp2, sp3, i64_w, i32_w]
             rfl
            refine pure_ (i := 17) (N := some 52) (v := ?_) (a' := ?_) #[true, true, true, true, true, true, true, true, true, true, true, true, true, true, true, true, true, true] rfl rfl (any_of HT_.out (by kernel_rfl)) (fun _ _ _ h => h) (Or.inl ⟨by rfl, ?_⟩) ?_ ?_
            rotate_left; (· (intro w'; go_simp; with_reducible rfl)); rotate_left; (· (simp only [Act.put, sp1, sp2, sp3, i64_w, i32_w]; rfl))
            refine done_ (done_of HT_.out (by kernel_rfl)) ?_
            try go_wp2
            go_roundg k3
            case measure => have := HJ2.out; have := HK2.out; have := HK3.out; omega
            case rel => exact ⟨(x9_3), (wrap64 (x30_3 + 1)), (by first | rfl | (simp; done) | (simp [*]; done)), (by first | rfl | (simp; done) | (simp [*]; done)), H', ⟨by have := HJ2.out; have := HK2.out; have := HK3.out; omega⟩, ⟨by (with_reducible repeat (first | apply Kd.R_alloc | apply Kd.R_drewN | apply Kd.R_drew)); exact Kd.R_mono HO_7.out (fun _ hk => trivial)⟩, ⟨by (with_reducible repeat (first | apply Kd.R_alloc | apply Kd.R_drewN | apply Kd.R_drew)); exact HO_8.out⟩, ⟨by (with_reducible repeat (first | apply Kd.R_alloc | apply Kd.R_drewN | apply Kd.R_drew)); exact Kd.R_mono HO_28.out (fun _ hk => trivial)⟩, ⟨by (with_reducible repeat (first | refine blk_drewN ?_ _ | refine blk_drew ?_ | refine blk_alloc ?_ _)); exact BK192.out⟩, ⟨by (with_reducible repeat (first | refine blk_drewN ?_ _ | refine blk_drew ?_ | refine blk_alloc ?_ _)); exact BK193.out⟩, ⟨blw⟩⟩
          ·rw [if_neg c28] at H
           exact absurd H (by simp)
         ·rw [if_neg c27] at H
          exact absurd H (by simp)
        ·rw [if_neg c26] at H
         have c26b0 : decide (x30_3 < (x7_2.length : Int)) = false := decide_eq_false c26
         clear c26
         by_cases c58 : x9_3 < 0
         ·rw [if_pos c58] at H
          have c58b0 : decide (x9_3 < 0) = true := decide_eq_true c58
          clear c58
          simp only [Option.some.injEq, Prod.mk.injEq] at H
          obtain ⟨rfl, rfl, rfl, rfl⟩ := H
          have hnb59 := NB193_192.out
          have hnc59 := NB192_193.out
          have hcz60_0 : wr.cell? ⟨gb193, 0, none⟩ = some (.int .i64 x194000_2) := (blk_cell BK193.out 0).trans rfl
          have hcz60_1 : wr.cell? ⟨gb193, 1, none⟩ = some (.slice none 0 0) := (blk_cell BK193.out 1).trans rfl
          have hfz60_0 := blk_frozen BK193.out 0
          have hfz60_1 := blk_frozen BK193.out 1
          go_wp2
          refine bodyPost_ret (results_ctt rfl _ _ gb193 31 #[.int .i64 a1, .slice Ao25 x7_2.length co25] (0, 0) _ rfl (by (with_reducible repeat (first | refine blk_drewN ?_ _ | refine blk_drew ?_ | refine blk_alloc ?_ _)); refine blk_put (cs := #[.int .i64 a1, .slice none 0 0]) ?_ 1 _ rfl; (with_reducible repeat (first | refine blk_drewN ?_ _ | refine blk_drew ?_ | refine blk_alloc ?_ _)); refine blk_put (cs := #[.int .i64 x194000_2, .slice none 0 0]) ?_ 0 _ rfl; (with_reducible repeat (first | refine blk_drewN ?_ _ | refine blk_drew ?_ | refine blk_alloc ?_ _)); exact BK193.out) Try.underlying31 rfl (by kernel_rfl)) rfl ?_
          exact ⟨_, _, by first | rfl | (simp [errW_none, errW_some] <;> rfl) | (simp [*, errW_none, errW_some] <;> rfl), by (with_reducible repeat (first | apply Kd.R_alloc | apply Kd.R_drewN | apply Kd.R_drew)); exact Kd.R_mono (Kd.R_far (p := ⟨gb193, 1, none⟩) (Kd.R_far (p := ⟨gb193, 0, none⟩) (Kd.R_types HO_7.out BK193.out (by decide)) (fun _ hk => hk.2) (.int .i64 a1)) (fun _ hk => hk.2) (.slice Ao25 x7_2.length co25)) (fun _ hk => trivial), by (with_reducible repeat (first | apply Kd.R_alloc | apply Kd.R_drewN | apply Kd.R_drew)); exact Kd.R_mono (Kd.R_far (p := ⟨gb193, 1, none⟩) (Kd.R_far (p := ⟨gb193, 0, none⟩) (Kd.R_types HO_8.out BK193.out (by decide)) (fun _ hk => hk.2) (.int .i64 a1)) (fun _ hk => hk.2) (.slice Ao25 x7_2.length co25)) (fun _ hk => trivial), blw⟩
         ·rw [if_neg c58] at H
          have c58b0 : decide (x9_3 < 0) = false := decide_eq_false c58
          clear c58
          by_cases c61 : 0 ≤ x9_3
          ·rw [if_pos c61] at H
           have c61b0 : decide (0 ≤ x9_3) = true := decide_eq_true c61
           clear c61
           by_cases c62 : x9_3 < (x7_2.length : Int)
           ·rw [if_pos c62] at H
            have c62b0 : decide (x9_3 < (x7_2.length : Int)) = true := decide_eq_true c62
            clear c62
            by_cases c63 : x8_2.length < 8796093022208
            ·rw [if_pos c63] at H
             have LMc63 := Aside0.mk c63
             clear c63
             obtain ⟨y208, hy208⟩ : ∃ y_ : List (S56), y_ = (x8_2 ++ [(⟨(rd_T54 x7_2 x9_3).f1, (rd_T54 x7_2 x9_3).f0⟩ : S56)]) := ⟨_, rfl⟩
             replace H : (if (y208.length : Int) > 2000 then (some (0, ([] : List (S54)), ([] : List (S56)), false)) else (if ((rd_T54 x7_2 x9_3).f2) > 0 then (if ((rd_T54 x7_2 x9_3).f3) > 1 then ((some (x7_2.set (x9_3 : Int).toNat (⟨(rd_T54 x7_2 x9_3).f0, (rd_T54 x7_2 x9_3).f1, (rd_T54 x7_2 x9_3).f2, wrap64 (((rd_T54 x7_2 x9_3).f3) - 1)⟩ : S54) : List (S54))).bind fun y214 => (impl_RunClock.l0 k3 a1 (y214.set (x9_3 : Int).toNat (⟨(rd_T54 y214 x9_3).f0, wrap64 (((rd_T54 y214 x9_3).f1) + ((rd_T54 y214 x9_3).f2)), (rd_T54 y214 x9_3).f2, (rd_T54 y214 x9_3).f3⟩ : S54)) y208)) else (if x9_3 ≤ (x7_2.length : Int) then (if 0 ≤ (wrap64 (x9_3 + 1)) then (if (wrap64 (x9_3 + 1)) ≤ (x7_2.length : Int) then (impl_RunClock.l0 k3 a1 (x7_2.eraseIdx (x9_3 : Int).toNat) y208) else (none)) else (none)) else (none))) else (if x9_3 ≤ (x7_2.length : Int) then (if 0 ≤ (wrap64 (x9_3 + 1)) then (if (wrap64 (x9_3 + 1)) ≤ (x7_2.length : Int) then (impl_RunClock.l0 k3 a1 (x7_2.eraseIdx (x9_3 : Int).toNat) y208) else (none)) else (none)) else (none)))) = some (r1, r2, r3, r4) := by first | (rw [hy208]; with_reducible exact H) | (have H2_ := (Option.bind_some _ _).symm.trans H; rw [hy208]; with_reducible exact H2_) | (have H2_ := (Option.bind_some _ _).symm.trans H; with_reducible exact H2_) | with_reducible exact H | (rw [hy208]; exact H) | exact H
             have Ny208 := Aside0.mk hy208
             clear hy208
             by_cases c64 : (y208.length : Int) > 2000
             ·rw [if_pos c64] at H
              have c64b0 : decide (2000 < (y208.length : Int)) = true := decide_eq_true c64
              have c64b1 : decide (2000 < y208.length) = true := decide_eq_true (by omega)
              clear c64
              simp only [Option.some.injEq, Prod.mk.injEq] at H
              obtain ⟨rfl, rfl, rfl, rfl⟩ := H
              have p205 : 0 ≤ (x9_3 : Int) := odt
              have q205 : x9_3 < (x7_2.length : Int) := odt
              obtain ⟨ad205, e205, hx205_0, hx205_1, hx205_2, hx205_3⟩ := at_T54 (Kd.R_reads' HO_7.out).2.2 x9_3 p205 q205
              cases e205
              replace p205 := eq_true p205
              replace q205 := eq_true q205
              try go_wp2
              have n0_ := Aside0.mk (Kd.R_drew HO_7.out)
              have n1_ := Aside0.mk (Kd.R_drew HO_8.out)
              have n2_ := Aside0.mk (Kd.R_drew HO_28.out)
              have n3_ := Aside0.mk (blk_drew BK192.out)
              have n4_ := Aside0.mk (blk_drew BK193.out)
              have n5_ := Aside0.mk (below_drew1 HB.out)
              clear HO_7
              clear HO_8
              clear HO_28
              clear BK192
              clear BK193
              clear HB
              have HO_7 := n0_
              have HO_8 := n1_
              have HO_28 := n2_
              have BK192 := n3_
              have BK193 := n4_
              have HB := n5_
              clear n0_ n1_ n2_ n3_ n4_ n5_
              have p206 : 0 ≤ (x9_3 : Int) := odt
              have q206 : x9_3 < (x7_2.length : Int) := odt
              obtain ⟨ad206, e206, hx206_0, hx206_1, hx206_2, hx206_3⟩ := at_T54 (Kd.R_reads' HO_7.out).2.2 x9_3 p206 q206
              obtain rfl : ad205 = ad206 := (by injection e206)
              replace p206 := eq_true p206
              replace q206 := eq_true q206
              have p207 : 0 ≤ (x9_3 : Int) := odt
              have q207 : x9_3 < (x7_2.length : Int) := odt
              obtain ⟨ad207, e207, hx207_0, hx207_1, hx207_2, hx207_3⟩ := at_T54 (Kd.R_reads' HO_7.out).2.2 x9_3 p207 q207
              obtain rfl : ad205 = ad207 := (by injection e207)
              replace p207 := eq_true p207
              replace q207 := eq_true q207
              refine start_ (n := 13) (S := fun w' => w'.cell? (ad205.add ((x9_3).toNat * 4)) = some (.int .i64 ((rd_T54 x7_2 x9_3).f0)) ∧ w'.cell? ⟨(ad205.add ((x9_3).toNat * 4)).block, (ad205.add ((x9_3).toNat * 4)).off + 1, none⟩ = some (.int .i64 ((rd_T54 x7_2 x9_3).f1)) ∧ w'.cell? ⟨(ad205.add ((x9_3).toNat * 4)).block, (ad205.add ((x9_3).toNat * 4)).off + 2, none⟩ = some (.int .i64 ((rd_T54 x7_2 x9_3).f2)) ∧ w'.cell? ⟨(ad205.add ((x9_3).toNat * 4)).block, (ad205.add ((x9_3).toNat * 4)).off + 3, none⟩ = some (.int .i64 ((rd_T54 x7_2 x9_3).f3)) ∧ w'.cell? (ad205.add ((x9_3).toNat * 4)) = some (.int .i64 ((rd_T54 x7_2 x9_3).f0)) ∧ w'.cell? ⟨(ad205.add ((x9_3).toNat * 4)).block, (ad205.add ((x9_3).toNat * 4)).off + 1, none⟩ = some (.int .i64 ((rd_T54 x7_2 x9_3).f1)) ∧ w'.cell? ⟨(ad205.add ((x9_3).toNat * 4)).block, (ad205.add ((x9_3).toNat * 4)).off + 2, none⟩ = some (.int .i64 ((rd_T54 x7_2 x9_3).f2)) ∧ w'.cell? ⟨(ad205.add ((x9_3).toNat * 4)).block, (ad205.add ((x9_3).toNat * 4)).off + 3, none⟩ = some (.int .i64 ((rd_T54 x7_2 x9_3).f3))) (ds := [10, 11]) #[false, false, false, false, false, false, false, false, false, false, false, false, false] (by kernel_rfl) rfl rfl ⟨hx206_0, hx206_1, hx206_2, hx206_3, hx207_0, hx207_1, hx207_2, hx207_3⟩ (fun hHeld => ?_); refine with_tabW impl_RunClock.tab14 impl_RunClock.bits14 (fun HT_ HW_ => ?_)
              generalize wr.drew = w65 at HO_7 HO_8 HO_28 BK192 BK193 HB hx206_0 hx206_1 hx206_2 hx206_3 hx207_0 hx207_1 hx207_2 hx207_3 hHeld ⊢
              refine pure_ (i := 0) (N := some 64) (v := ?_) (a' := ?_) #[true, false, false, false, false, false, false, false, false, false, false, false, false] rfl rfl (any_of HT_.out (by kernel_rfl)) (fun _ _ _ h => h) (Or.inl ⟨by rfl, ?_⟩) ?_ ?_
              rotate_left; (· (intro w'; go_simp; with_reducible rfl)); rotate_left; (· (simp only [Act.put, sp1, sp2, sp3, i64_w, i32_w]; rfl))
              refine pure_ (i := 1) (N := some 65) (v := ?_) (a' := ?_) #[true, true, false, false, false, false, false, false, false, false, false, false, false] rfl rfl (any_of HT_.out (by kernel_rfl)) (fun _ _ _ h => h) (Or.inl ⟨by rfl, ?_⟩) ?_ ?_
              rotate_left; (· (intro w'; go_simp; with_reducible rfl)); rotate_left; (· (simp only [Act.put, sp1, sp2, sp3, i64_w, i32_w]; rfl))
              refine pure_ (i := 2) (N := some 66) (v := ?_) (a' := ?_) #[true, true, true, false, false, false, false, false, false, false, false, false, false] rfl rfl (any_of HT_.out (by kernel_rfl)) (fun _ _ _ h => h) (Or.inl ⟨by rfl, ?_⟩) ?_ ?_
              rotate_left; (· (intro w'; go_simp; with_reducible rfl)); rotate_left; (· (simp only [Act.put, sp1, sp2, sp3, i64_w, i32_w]; rfl))
              refine pure_ (i := 3) (N := some 67) (v := ?_) (a' := ?_) #[true, true, true, true, false, false, false, false, false, false, false, false, false] rfl rfl (any_of HT_.out (by kernel_rfl)) (fun _ _ _ h => h) (Or.inl ⟨by rfl, ?_⟩) ?_ ?_
              rotate_left; (· (intro w'; go_simp; with_reducible rfl)); rotate_left; (· (simp only [Act.put, sp1, sp2, sp3, i64_w, i32_w]; rfl))
              refine pure_ (i := 5) (N := some 69) (v := ?_) (a' := ?_) #[true, true, true, true, false, true, false, false, false, false, false, false, false] rfl rfl (any_of HT_.out (by kernel_rfl)) (fun _ _ _ h => h) (Or.inl ⟨by rfl, ?_⟩) ?_ ?_
              rotate_left; (· (intro w'; go_simp; with_reducible rfl)); rotate_left; (· (simp only [Act.put, sp1, sp2, sp3, i64_w, i32_w]; rfl))
              refine pure_ (i := 6) (N := some 70) (v := ?_) (a' := ?_) #[true, true, true, true, false, true, true, false, false, false, false, false, false] rfl rfl (any_of HT_.out (by kernel_rfl)) (fun _ _ _ h => h) (Or.inl ⟨by rfl, ?_⟩) ?_ ?_
              rotate_left; (· (intro w'; go_simp; with_reducible rfl)); rotate_left; (· (simp only [Act.put, sp1, sp2, sp3, i64_w, i32_w]; rfl))
              refine pure_ (i := 7) (N := some 71) (v := ?_) (a' := ?_) #[true, true, true, true, false, true, true, true, false, false, false, false, false] rfl rfl (any_of HT_.out (by kernel_rfl)) (fun _ _ _ h => h) (Or.inl ⟨by rfl, ?_⟩) ?_ ?_
              rotate_left; (· (intro w'; go_simp; with_reducible rfl)); rotate_left; (· (simp only [Act.put, sp1, sp2, sp3, i64_w, i32_w]; rfl))
              refine take_ (i := 4) (N := some 68) (v := ?_) (a' := ?_) #[true, true, true, true, true, true, true, true, false, false, false, false, false] rfl rfl (take_ofW HT_.out HW_.out (by kernel_rfl)) (fun _ _ _ h => h) (Or.inl ⟨by rfl, ?_⟩) hHeld ?_ ?_
              rotate_left; (· (rintro w' ⟨s0, s1, s2, s3, s4, s5, s6, s7⟩; go_simp; with_reducible rfl)); rotate_left; (· (simp only [Act.put, sp1, sp2, sp3, i64_w, i32_w]; rfl))
              refine take_ (i := 8) (N := some 72) (v := ?_) (a' := ?_) #[true, true, true, true, true, true, true, true, true, false, false, false, false] rfl rfl (take_ofW HT_.out HW_.out (by kernel_rfl)) (fun _ _ _ h => h) (Or.inl ⟨by rfl, ?_⟩) hHeld ?_ ?_
              rotate_left; (· (rintro w' ⟨s0, s1, s2, s3, s4, s5, s6, s7⟩; go_simp; with_reducible rfl)); rotate_left; (· (simp only [Act.put, sp1, sp2, sp3, i64_w, i32_w]; rfl))
              refine pure_ (i := 9) (N := some 73) (v := ?_) (a' := ?_) #[true, true, true, true, true, true, true, true, true, true, false, false, false] rfl rfl (any_of HT_.out (by kernel_rfl)) (fun _ _ _ h => h) (Or.inl ⟨by rfl, ?_⟩) ?_ ?_
              rotate_left; (· (intro w'; go_simp; with_reducible rfl)); rotate_left; (· (simp only [Act.put, sp1, sp2, sp3, i64_w, i32_w]; rfl))
              refine last_ (i := 10) (N := some 74) #[true, true, true, true, true, true, true, true, true, true, true, false, false] rfl rfl (one_of HT_.out (by kernel_rfl)) (by decide) (fun K hK => ?_)
              refine value_ (w1 := ?_) (v := ?_) (by rfl) rfl ?_ ?_
              rotate_left 2
              ·go_simp
               constructor
               ·rfl
               ·rfl
              refine hK.out _ _ ?_
              clear hK K
              refine norm_ (a' := ?_) ?_ ?_
              rotate_left
              ·show Act.put _ (some 74) _ = _
               simp only [Act.put, sp1, sp2, sp3, i64_w, i32_w]
               rfl
              refine last_ (i := 11) (N := some 75) #[true, true, true, true, true, true, true, true, true, true, true, true, false] rfl rfl (one_of HT_.out (by kernel_rfl)) (by decide) (fun K hK => ?_)
              refine Kd.R_append_step k56 (w0 := w) w.heap.size (by rfl) (.tmp 64) (.tmp 74) 32 56 (.agg #[(.int .i64 0), (.int .i64 0)]) 16 rfl Try.underlying32 info56 rfl (by decide) (by omega) u8 x8_2 (⟨(rd_T54 x7_2 x9_3).f1, (rd_T54 x7_2 x9_3).f0⟩ : S56) [.int .i64 ((rd_T54 x7_2 x9_3).f1), .int .i64 ((rd_T54 x7_2 x9_3).f0)] (fun _ => True) (fun _ => False) rfl rfl ?aP (fun _ hk => hk.elim) ?aF ?aO ?aB ?aS ?aL ?_
              (case aP => exact k56_mkM _ _ _ (⟨(rd_T54 x7_2 x9_3).f1, (rd_T54 x7_2 x9_3).f0⟩ : S56))
              (case aB => exact blw)
              (case aF => exact (fun _ _ => trivial))
              (case aO => exact (by (with_reducible repeat (first | apply Kd.R_alloc | apply Kd.R_drewN | apply Kd.R_drew)); exact HO_8.out))
              (case aS => exact (below_size blw))
              (case aL => have := LMc63.out; omega)
              intro v209 w66 ho hb hg hat
              rw [← Ny208.out] at ho
              have n0_ := Aside0.mk (Kd.R_over' (by (with_reducible repeat (first | apply Kd.R_alloc | apply Kd.R_drewN | apply Kd.R_drew)); exact HO_7.out) (Kd.R_typed (by (with_reducible repeat (first | apply Kd.R_alloc | apply Kd.R_drewN | apply Kd.R_drew)); exact HO_8.out)) (by decide) hg)
              have n1_ := Aside0.mk (Kd.R_over' (by (with_reducible repeat (first | apply Kd.R_alloc | apply Kd.R_drewN | apply Kd.R_drew)); exact HO_28.out) (Kd.R_typed (by (with_reducible repeat (first | apply Kd.R_alloc | apply Kd.R_drewN | apply Kd.R_drew)); exact HO_8.out)) (by decide) hg)
              have n2_ := Aside0.mk (blk_grown (g := gb192) (o := .cells #[.int .i64 a0_0, .slice A0_1 l0_1.length c0_1] 31 (0, 0)) bkw hg (Kd.R_ne HO_8.out BK192.out (by decide)))
              have n3_ := Aside0.mk (blk_grown (g := gb193) (o := .cells #[.int .i64 x194000_2, .slice none 0 0] 31 (0, 0)) bkw hg (Kd.R_ne HO_8.out BK193.out (by decide)))
              have n4_ := Aside0.mk (hb)
              have n5_ := Aside0.mk (ho)
              clear HO_7
              clear HO_28
              clear BK192
              clear BK193
              clear HB
              clear HO_8
              have HO_7 := n0_
              have HO_28 := n1_
              have BK192 := n2_
              have BK193 := n3_
              have HB := n4_
              have HO210 := n5_
              clear n0_ n1_ n2_ n3_ n4_ n5_
              clear ho hb hg hat
              refine hK.out _ _ ?_
              clear hK K
              refine norm_ (a' := ?_) ?_ ?_
              rotate_left
              ·show Act.put _ (some 75) _ = _
               simp only [Act.put, sp1, sp2, sp3, i64_w, i32_w]
               rfl
              refine pure_ (i := 12) (N := some 8) (v := ?_) (a' := ?_) #[true, true, true, true, true, true, true, true, true, true, true, true, true] rfl rfl (any_of HT_.out (by kernel_rfl)) (fun _ _ _ h => h) (Or.inl ⟨by rfl, ?_⟩) ?_ ?_
              rotate_left; (· (intro w'; go_simp; with_reducible rfl)); rotate_left; (· (simp only [Act.put, sp1, sp2, sp3, i64_w, i32_w]; rfl))
              refine done_ (done_of HT_.out (by kernel_rfl)) ?_
              obtain ⟨Ao67, co67, eo67⟩ := Kd.R_slice HO210.out
              subst eo67
              have hnb68 := NB193_192.out
              have hnc68 := NB192_193.out
              have hcz69_0 : w66.cell? ⟨gb193, 0, none⟩ = some (.int .i64 x194000_2) := (blk_cell BK193.out 0).trans rfl
              have hcz69_1 : w66.cell? ⟨gb193, 1, none⟩ = some (.slice none 0 0) := (blk_cell BK193.out 1).trans rfl
              have hfz69_0 := blk_frozen BK193.out 0
              have hfz69_1 := blk_frozen BK193.out 1
              try go_wp2
              refine bodyPost_ret (results_ctt rfl _ _ gb193 31 #[.int .i64 0, .slice none 0 0] (0, 0) _ rfl (by (with_reducible repeat (first | refine blk_drewN ?_ _ | refine blk_drew ?_ | refine blk_alloc ?_ _)); refine blk_put (cs := #[.int .i64 0, .slice none 0 0]) ?_ 1 _ rfl; (with_reducible repeat (first | refine blk_drewN ?_ _ | refine blk_drew ?_ | refine blk_alloc ?_ _)); refine blk_put (cs := #[.int .i64 x194000_2, .slice none 0 0]) ?_ 0 _ rfl; (with_reducible repeat (first | refine blk_drewN ?_ _ | refine blk_drew ?_ | refine blk_alloc ?_ _)); exact BK193.out) Try.underlying31 rfl (by kernel_rfl)) rfl ?_
              exact ⟨_, _, by first | rfl | (simp [errW_none, errW_some] <;> rfl) | (simp [*, errW_none, errW_some] <;> rfl), by first | exact Kd.R_nil _ _ _ _ _ | exact Kd.N_nil _ _ _ _ _ | exact Kd.V_nil _ _ _ _ _ | exact Kd.Q_nil _ _ _ _ _ | exact Kd.S_nil _ _ _ _ _, by first | exact Kd.R_nil _ _ _ _ _ | exact Kd.N_nil _ _ _ _ _ | exact Kd.V_nil _ _ _ _ _ | exact Kd.Q_nil _ _ _ _ _ | exact Kd.S_nil _ _ _ _ _, blw⟩
             ·rw [if_neg c64] at H
              have c64b0 : decide (2000 < (y208.length : Int)) = false := decide_eq_false c64
              have c64b1 : decide (2000 < y208.length) = false := decide_eq_false (by omega)
              clear c64
              by_cases c70 : ((rd_T54 x7_2 x9_3).f2) > 0
              ·rw [if_pos c70] at H
               have c70b0 : decide (0 < ((rd_T54 x7_2 x9_3).f2)) = true := decide_eq_true c70
               clear c70
               by_cases c71 : ((rd_T54 x7_2 x9_3).f3) > 1
               ·rw [if_pos c71] at H
                have c71b0 : decide (1 < ((rd_T54 x7_2 x9_3).f3)) = true := decide_eq_true c71
                clear c71
                obtain ⟨y214, hy214⟩ : ∃ y_ : List (S54), y_ = (x7_2.set (x9_3 : Int).toNat (⟨(rd_T54 x7_2 x9_3).f0, (rd_T54 x7_2 x9_3).f1, (rd_T54 x7_2 x9_3).f2, wrap64 (((rd_T54 x7_2 x9_3).f3) - 1)⟩ : S54)) := ⟨_, rfl⟩
                replace H : (impl_RunClock.l0 k3 a1 (y214.set (x9_3 : Int).toNat (⟨(rd_T54 y214 x9_3).f0, wrap64 (((rd_T54 y214 x9_3).f1) + ((rd_T54 y214 x9_3).f2)), (rd_T54 y214 x9_3).f2, (rd_T54 y214 x9_3).f3⟩ : S54)) y208) = some (r1, r2, r3, r4) := by first | (rw [hy214]; with_reducible exact H) | (have H2_ := (Option.bind_some _ _).symm.trans H; rw [hy214]; with_reducible exact H2_) | (have H2_ := (Option.bind_some _ _).symm.trans H; with_reducible exact H2_) | with_reducible exact H | (rw [hy214]; exact H) | exact H
                have Ny214 := Aside0.mk hy214
                clear hy214
                obtain ⟨y217, hy217⟩ : ∃ y_ : List (S54), y_ = (y214.set (x9_3 : Int).toNat (⟨(rd_T54 y214 x9_3).f0, wrap64 (((rd_T54 y214 x9_3).f1) + ((rd_T54 y214 x9_3).f2)), (rd_T54 y214 x9_3).f2, (rd_T54 y214 x9_3).f3⟩ : S54)) := ⟨_, rfl⟩
                replace H : (impl_RunClock.l0 k3 a1 y217 y208) = some (r1, r2, r3, r4) := by first | (rw [hy217]; with_reducible exact H) | (have H2_ := (Option.bind_some _ _).symm.trans H; rw [hy217]; with_reducible exact H2_) | (have H2_ := (Option.bind_some _ _).symm.trans H; with_reducible exact H2_) | with_reducible exact H | (rw [hy217]; exact H) | exact H
                have Ny217 := Aside0.mk hy217
                clear hy217
                have H' := Aside0.mk H
                clear H
                have p205 : 0 ≤ (x9_3 : Int) := odt
                have q205 : x9_3 < (x7_2.length : Int) := odt
                obtain ⟨ad205, e205, hx205_0, hx205_1, hx205_2, hx205_3⟩ := at_T54 (Kd.R_reads' HO_7.out).2.2 x9_3 p205 q205
                cases e205
                replace p205 := eq_true p205
                replace q205 := eq_true q205
                try go_wp2
                have n0_ := Aside0.mk (Kd.R_drew HO_7.out)
                have n1_ := Aside0.mk (Kd.R_drew HO_8.out)
                have n2_ := Aside0.mk (Kd.R_drew HO_28.out)
                have n3_ := Aside0.mk (blk_drew BK192.out)
                have n4_ := Aside0.mk (blk_drew BK193.out)
                have n5_ := Aside0.mk (below_drew1 HB.out)
                clear HO_7
                clear HO_8
                clear HO_28
                clear BK192
                clear BK193
                clear HB
                have HO_7 := n0_
                have HO_8 := n1_
                have HO_28 := n2_
                have BK192 := n3_
                have BK193 := n4_
                have HB := n5_
                clear n0_ n1_ n2_ n3_ n4_ n5_
                have p206 : 0 ≤ (x9_3 : Int) := odt
                have q206 : x9_3 < (x7_2.length : Int) := odt
                obtain ⟨ad206, e206, hx206_0, hx206_1, hx206_2, hx206_3⟩ := at_T54 (Kd.R_reads' HO_7.out).2.2 x9_3 p206 q206
                obtain rfl : ad205 = ad206 := (by injection e206)
                replace p206 := eq_true p206
                replace q206 := eq_true q206
                have p207 : 0 ≤ (x9_3 : Int) := odt
                have q207 : x9_3 < (x7_2.length : Int) := odt
                obtain ⟨ad207, e207, hx207_0, hx207_1, hx207_2, hx207_3⟩ := at_T54 (Kd.R_reads' HO_7.out).2.2 x9_3 p207 q207
                obtain rfl : ad205 = ad207 := (by injection e207)
                replace p207 := eq_true p207
                replace q207 := eq_true q207
                refine start_ (n := 13) (S := fun w' => w'.cell? (ad205.add ((x9_3).toNat * 4)) = some (.int .i64 ((rd_T54 x7_2 x9_3).f0)) ∧ w'.cell? ⟨(ad205.add ((x9_3).toNat * 4)).block, (ad205.add ((x9_3).toNat * 4)).off + 1, none⟩ = some (.int .i64 ((rd_T54 x7_2 x9_3).f1)) ∧ w'.cell? ⟨(ad205.add ((x9_3).toNat * 4)).block, (ad205.add ((x9_3).toNat * 4)).off + 2, none⟩ = some (.int .i64 ((rd_T54 x7_2 x9_3).f2)) ∧ w'.cell? ⟨(ad205.add ((x9_3).toNat * 4)).block, (ad205.add ((x9_3).toNat * 4)).off + 3, none⟩ = some (.int .i64 ((rd_T54 x7_2 x9_3).f3)) ∧ w'.cell? (ad205.add ((x9_3).toNat * 4)) = some (.int .i64 ((rd_T54 x7_2 x9_3).f0)) ∧ w'.cell? ⟨(ad205.add ((x9_3).toNat * 4)).block, (ad205.add ((x9_3).toNat * 4)).off + 1, none⟩ = some (.int .i64 ((rd_T54 x7_2 x9_3).f1)) ∧ w'.cell? ⟨(ad205.add ((x9_3).toNat * 4)).block, (ad205.add ((x9_3).toNat * 4)).off + 2, none⟩ = some (.int .i64 ((rd_T54 x7_2 x9_3).f2)) ∧ w'.cell? ⟨(ad205.add ((x9_3).toNat * 4)).block, (ad205.add ((x9_3).toNat * 4)).off + 3, none⟩ = some (.int .i64 ((rd_T54 x7_2 x9_3).f3))) (ds := [10, 11]) #[false, false, false, false, false, false, false, false, false, false, false, false, false] (by kernel_rfl) rfl rfl ⟨hx206_0, hx206_1, hx206_2, hx206_3, hx207_0, hx207_1, hx207_2, hx207_3⟩ (fun hHeld => ?_); refine with_tabW impl_RunClock.tab14 impl_RunClock.bits14 (fun HT_ HW_ => ?_)
                generalize wr.drew = w74 at HO_7 HO_8 HO_28 BK192 BK193 HB hx206_0 hx206_1 hx206_2 hx206_3 hx207_0 hx207_1 hx207_2 hx207_3 hHeld ⊢
                refine pure_ (i := 0) (N := some 64) (v := ?_) (a' := ?_) #[true, false, false, false, false, false, false, false, false, false, false, false, false] rfl rfl (any_of HT_.out (by kernel_rfl)) (fun _ _ _ h => h) (Or.inl ⟨by rfl, ?_⟩) ?_ ?_
                rotate_left; (· (intro w'; go_simp; with_reducible rfl)); rotate_left; (· (simp only [Act.put, sp1, sp2, sp3, i64_w, i32_w]; rfl))
                refine pure_ (i := 1) (N := some 65) (v := ?_) (a' := ?_) #[true, true, false, false, false, false, false, false, false, false, false, false, false] rfl rfl (any_of HT_.out (by kernel_rfl)) (fun _ _ _ h => h) (Or.inl ⟨by rfl, ?_⟩) ?_ ?_
                rotate_left; (· (intro w'; go_simp; with_reducible rfl)); rotate_left; (· (simp only [Act.put, sp1, sp2, sp3, i64_w, i32_w]; rfl))
                refine pure_ (i := 2) (N := some 66) (v := ?_) (a' := ?_) #[true, true, true, false, false, false, false, false, false, false, false, false, false] rfl rfl (any_of HT_.out (by kernel_rfl)) (fun _ _ _ h => h) (Or.inl ⟨by rfl, ?_⟩) ?_ ?_
                rotate_left; (· (intro w'; go_simp; with_reducible rfl)); rotate_left; (· (simp only [Act.put, sp1, sp2, sp3, i64_w, i32_w]; rfl))
                refine pure_ (i := 3) (N := some 67) (v := ?_) (a' := ?_) #[true, true, true, true, false, false, false, false, false, false, false, false, false] rfl rfl (any_of HT_.out (by kernel_rfl)) (fun _ _ _ h => h) (Or.inl ⟨by rfl, ?_⟩) ?_ ?_
                rotate_left; (· (intro w'; go_simp; with_reducible rfl)); rotate_left; (· (simp only [Act.put, sp1, sp2, sp3, i64_w, i32_w]; rfl))
                refine pure_ (i := 5) (N := some 69) (v := ?_) (a' := ?_) #[true, true, true, true, false, true, false, false, false, false, false, false, false] rfl rfl (any_of HT_.out (by kernel_rfl)) (fun _ _ _ h => h) (Or.inl ⟨by rfl, ?_⟩) ?_ ?_
                rotate_left; (· (intro w'; go_simp; with_reducible rfl)); rotate_left; (· (simp only [Act.put, sp1, sp2, sp3, i64_w, i32_w]; rfl))
                refine pure_ (i := 6) (N := some 70) (v := ?_) (a' := ?_) #[true, true, true, true, false, true, true, false, false, false, false, false, false] rfl rfl (any_of HT_.out (by kernel_rfl)) (fun _ _ _ h => h) (Or.inl ⟨by rfl, ?_⟩) ?_ ?_
                rotate_left; (· (intro w'; go_simp; with_reducible rfl)); rotate_left; (· (simp only [Act.put, sp1, sp2, sp3, i64_w, i32_w]; rfl))
                refine pure_ (i := 7) (N := some 71) (v := ?_) (a' := ?_) #[true, true, true, true, false, true, true, true, false, false, false, false, false] rfl rfl (any_of HT_.out (by kernel_rfl)) (fun _ _ _ h => h) (Or.inl ⟨by rfl, ?_⟩) ?_ ?_
                rotate_left; (· (intro w'; go_simp; with_reducible rfl)); rotate_left; (· (simp only [Act.put, sp1, sp2, sp3, i64_w, i32_w]; rfl))
                refine take_ (i := 4) (N := some 68) (v := ?_) (a' := ?_) #[true, true, true, true, true, true, true, true, false, false, false, false, false] rfl rfl (take_ofW HT_.out HW_.out (by kernel_rfl)) (fun _ _ _ h => h) (Or.inl ⟨by rfl, ?_⟩) hHeld ?_ ?_
                rotate_left; (· (rintro w' ⟨s0, s1, s2, s3, s4, s5, s6, s7⟩; go_simp; with_reducible rfl)); rotate_left; (· (simp only [Act.put, sp1, sp2, sp3, i64_w, i32_w]; rfl))
                refine take_ (i := 8) (N := some 72) (v := ?_) (a' := ?_) #[true, true, true, true, true, true, true, true, true, false, false, false, false] rfl rfl (take_ofW HT_.out HW_.out (by kernel_rfl)) (fun _ _ _ h => h) (Or.inl ⟨by rfl, ?_⟩) hHeld ?_ ?_
                rotate_left; (· (rintro w' ⟨s0, s1, s2, s3, s4, s5, s6, s7⟩; go_simp; with_reducible rfl)); rotate_left; (· (simp only [Act.put, sp1, sp2, sp3, i64_w, i32_w]; rfl))
                refine pure_ (i := 9) (N := some 73) (v := ?_) (a' := ?_) #[true, true, true, true, true, true, true, true, true, true, false, false, false] rfl rfl (any_of HT_.out (by kernel_rfl)) (fun _ _ _ h => h) (Or.inl ⟨by rfl, ?_⟩) ?_ ?_
                rotate_left; (· (intro w'; go_simp; with_reducible rfl)); rotate_left; (· (simp only [Act.put, sp1, sp2, sp3, i64_w, i32_w]; rfl))
                refine last_ (i := 10) (N := some 74) #[true, true, true, true, true, true, true, true, true, true, true, false, false] rfl rfl (one_of HT_.out (by kernel_rfl)) (by decide) (fun K hK => ?_)
                refine value_ (w1 := ?_) (v := ?_) (by rfl) rfl ?_ ?_
                rotate_left 2
                ·go_simp
                 constructor
                 ·rfl
                 ·rfl
                refine hK.out _ _ ?_
                clear hK K
                refine norm_ (a' := ?_) ?_ ?_
                rotate_left
                ·show Act.put _ (some 74) _ = _
                 simp only [Act.put, sp1, sp2, sp3, i64_w, i32_w]
                 rfl
                refine last_ (i := 11) (N := some 75) #[true, true, true, true, true, true, true, true, true, true, true, true, false] rfl rfl (one_of HT_.out (by kernel_rfl)) (by decide) (fun K hK => ?_)
                refine Kd.R_append_step k56 (w0 := w) w.heap.size (by rfl) (.tmp 64) (.tmp 74) 32 56 (.agg #[(.int .i64 0), (.int .i64 0)]) 16 rfl Try.underlying32 info56 rfl (by decide) (by omega) u8 x8_2 (⟨(rd_T54 x7_2 x9_3).f1, (rd_T54 x7_2 x9_3).f0⟩ : S56) [.int .i64 ((rd_T54 x7_2 x9_3).f1), .int .i64 ((rd_T54 x7_2 x9_3).f0)] (fun _ => True) (fun _ => False) rfl rfl ?aP (fun _ hk => hk.elim) ?aF ?aO ?aB ?aS ?aL ?_
                (case aP => exact k56_mkM _ _ _ (⟨(rd_T54 x7_2 x9_3).f1, (rd_T54 x7_2 x9_3).f0⟩ : S56))
                (case aB => exact blw)
                (case aF => exact (fun _ _ => trivial))
                (case aO => exact (by (with_reducible repeat (first | apply Kd.R_alloc | apply Kd.R_drewN | apply Kd.R_drew)); exact HO_8.out))
                (case aS => exact (below_size blw))
                (case aL => have := LMc63.out; omega)
                intro v209 w75 ho hb hg hat
                rw [← Ny208.out] at ho
                have n0_ := Aside0.mk (Kd.R_over' (by (with_reducible repeat (first | apply Kd.R_alloc | apply Kd.R_drewN | apply Kd.R_drew)); exact HO_7.out) (Kd.R_typed (by (with_reducible repeat (first | apply Kd.R_alloc | apply Kd.R_drewN | apply Kd.R_drew)); exact HO_8.out)) (by decide) hg)
                have n1_ := Aside0.mk (Kd.R_over' (by (with_reducible repeat (first | apply Kd.R_alloc | apply Kd.R_drewN | apply Kd.R_drew)); exact HO_28.out) (Kd.R_typed (by (with_reducible repeat (first | apply Kd.R_alloc | apply Kd.R_drewN | apply Kd.R_drew)); exact HO_8.out)) (by decide) hg)
                have n2_ := Aside0.mk (blk_grown (g := gb192) (o := .cells #[.int .i64 a0_0, .slice A0_1 l0_1.length c0_1] 31 (0, 0)) bkw hg (Kd.R_ne HO_8.out BK192.out (by decide)))
                have n3_ := Aside0.mk (blk_grown (g := gb193) (o := .cells #[.int .i64 x194000_2, .slice none 0 0] 31 (0, 0)) bkw hg (Kd.R_ne HO_8.out BK193.out (by decide)))
                have n4_ := Aside0.mk (hb)
                have n5_ := Aside0.mk (ho)
                clear HO_7
                clear HO_28
                clear BK192
                clear BK193
                clear HB
                clear HO_8
                have HO_7 := n0_
                have HO_28 := n1_
                have BK192 := n2_
                have BK193 := n3_
                have HB := n4_
                have HO210 := n5_
                clear n0_ n1_ n2_ n3_ n4_ n5_
                clear ho hb hg hat
                refine hK.out _ _ ?_
                clear hK K
                refine norm_ (a' := ?_) ?_ ?_
                rotate_left
                ·show Act.put _ (some 75) _ = _
                 simp only [Act.put, sp1, sp2, sp3, i64_w, i32_w]
                 rfl
                refine pure_ (i := 12) (N := some 8) (v := ?_) (a' := ?_) #[true, true, true, true, true, true, true, true, true, true, true, true, true] rfl rfl (any_of HT_.out (by kernel_rfl)) (fun _ _ _ h => h) (Or.inl ⟨by rfl, ?_⟩) ?_ ?_
                rotate_left; (· (intro w'; go_simp; with_reducible rfl)); rotate_left; (· (simp only [Act.put, sp1, sp2, sp3, i64_w, i32_w]; rfl))
                refine done_ (done_of HT_.out (by kernel_rfl)) ?_
                obtain ⟨Ao76, co76, eo76⟩ := Kd.R_slice HO210.out
                subst eo76
                have p211 : 0 ≤ (x9_3 : Int) := odt
                have q211 : x9_3 < (x7_2.length : Int) := odt
                obtain ⟨ad211, e211, hx211_0, hx211_1, hx211_2, hx211_3⟩ := at_T54 (Kd.R_reads' HO_7.out).2.2 x9_3 p211 q211
                obtain rfl : ad205 = ad211 := (by injection e211)
                replace p211 := eq_true p211
                replace q211 := eq_true q211
                have p212 : 0 ≤ (x9_3 : Int) := odt
                have q212 : x9_3 < (x7_2.length : Int) := odt
                obtain ⟨ad212, e212, hx212_0, hx212_1, hx212_2, hx212_3⟩ := at_T54 (Kd.R_reads' HO_7.out).2.2 x9_3 p212 q212
                obtain rfl : ad205 = ad212 := (by injection e212)
                replace p212 := eq_true p212
                replace q212 := eq_true q212
                have p213 : 0 ≤ (x9_3 : Int) := odt
                have q213 : x9_3 < (x7_2.length : Int) := odt
                obtain ⟨ad213, e213, hx213_0, hx213_1, hx213_2, hx213_3⟩ := at_T54 (Kd.R_reads' HO_7.out).2.2 x9_3 p213 q213
                obtain rfl : ad205 = ad213 := (by injection e213)
                replace p213 := eq_true p213
                replace q213 := eq_true q213
                have p72 : 0 ≤ (x9_3 : Int) := odt
                have q72 : (x9_3 : Int) < ((x7_2.length : Int) : Int) := odt
                obtain ⟨go72, co72, eo72, gb72, gl72, cl72, HG72⟩ := Kd.R_form HO_7.out (by omega)
                (first | cases eo72 | (injection eo72 with ea_ en_ ec_; (first | subst ea_ | (injection ea_ with ea_; subst ea_)); subst ec_; clear en_))
                have GB72 := Aside0.mk gb72
                have GG72 := Aside0.mk HG72
                clear gb72 gl72 HG72
                (first | simp only [add_plain] at hx205_0 | skip)
                (first | simp only [add_plain] at hx205_1 | skip)
                (first | simp only [add_plain] at hx205_2 | skip)
                (first | simp only [add_plain] at hx205_3 | skip)
                (first | simp only [add_plain] at hx206_0 | skip)
                (first | simp only [add_plain] at hx206_1 | skip)
                (first | simp only [add_plain] at hx206_2 | skip)
                (first | simp only [add_plain] at hx206_3 | skip)
                (first | simp only [add_plain] at hx207_0 | skip)
                (first | simp only [add_plain] at hx207_1 | skip)
                (first | simp only [add_plain] at hx207_2 | skip)
                (first | simp only [add_plain] at hx207_3 | skip)
                (first | simp only [add_plain] at hx211_0 | skip)
                (first | simp only [add_plain] at hx211_1 | skip)
                (first | simp only [add_plain] at hx211_2 | skip)
                (first | simp only [add_plain] at hx211_3 | skip)
                (first | simp only [add_plain] at hx212_0 | skip)
                (first | simp only [add_plain] at hx212_1 | skip)
                (first | simp only [add_plain] at hx212_2 | skip)
                (first | simp only [add_plain] at hx212_3 | skip)
                (first | simp only [add_plain] at hx213_0 | skip)
                (first | simp only [add_plain] at hx213_1 | skip)
                (first | simp only [add_plain] at hx213_2 | skip)
                (first | simp only [add_plain] at hx213_3 | skip)
                obtain ⟨ce72, hcl72, hM72, hcc72, hfr72⟩ := Kd.R_elem HO_7.out z54 (x9_3 : Int) p72 q72
                obtain rfl := k54_openM hM72
                have hx72_0 : w75.cell? ⟨go72, (x9_3 : Int).toNat * 4, none⟩ = some (.int .i64 ((rd_T54 x7_2 x9_3).f0)) := hcc72 0 _ rfl
                have hx72_1 : w75.cell? ⟨go72, (x9_3 : Int).toNat * 4 + 1, none⟩ = some (.int .i64 ((rd_T54 x7_2 x9_3).f1)) := hcc72 1 _ rfl
                have hx72_2 : w75.cell? ⟨go72, (x9_3 : Int).toNat * 4 + 2, none⟩ = some (.int .i64 ((rd_T54 x7_2 x9_3).f2)) := hcc72 2 _ rfl
                have hx72_3 : w75.cell? ⟨go72, (x9_3 : Int).toNat * 4 + 3, none⟩ = some (.int .i64 ((rd_T54 x7_2 x9_3).f3)) := hcc72 3 _ rfl
                have hf72_0 : w75.frozen? ⟨go72, (x9_3 : Int).toNat * 4, none⟩ = false := hfr72 0
                have hf72_1 : w75.frozen? ⟨go72, (x9_3 : Int).toNat * 4 + 1, none⟩ = false := hfr72 1
                have hf72_2 : w75.frozen? ⟨go72, (x9_3 : Int).toNat * 4 + 2, none⟩ = false := hfr72 2
                have hf72_3 : w75.frozen? ⟨go72, (x9_3 : Int).toNat * 4 + 3, none⟩ = false := hfr72 3
                clear hcl72 hcc72 hfr72 hM72
                replace p72 := eq_true p72
                replace q72 := eq_true q72
                have HX77 := Aside0.mk (show Kd.R k54 54 w75 w.heap.size (fun _ => True) (.slice (some ⟨go72, 0, none⟩) x7_2.length co25) x7_2 from (by (with_reducible repeat (first | apply Kd.R_alloc | apply Kd.R_drewN | apply Kd.R_drew)); exact HO_7.out))
                obtain ⟨ce77, hcl77, hM77, hcc77, hfr77⟩ := Kd.R_elem HX77.out z54 (x9_3 : Int) odt (by have h_ : (x9_3 : Int) < ((x7_2.length : Int) : Int) := odt; first | exact h_ | (have e_ := (Kd.R_reads' HO_7.out).1; omega) | simpa using h_)
                obtain rfl := k54_openM hM77
                have HP77 := Kd.R_seg HX77.out (x9_3 : Int) odt (by have h_ : (x9_3 : Int) < ((x7_2.length : Int) : Int) := odt; first | exact h_ | (have e_ := (Kd.R_reads' HO_7.out).1; omega) | simpa using h_) (seg := [.int .i64 (wrap64 (((rd_T54 x7_2 x9_3).f3) - 1))]) (j := 3) hcl77 hcc77 (show 4 ≤ 4 from by decide) (x' := (⟨(rd_T54 x7_2 x9_3).f0, (rd_T54 x7_2 x9_3).f1, (rd_T54 x7_2 x9_3).f2, wrap64 (((rd_T54 x7_2 x9_3).f3) - 1)⟩ : S54)) (k54_mkM _ _ _ (⟨(rd_T54 x7_2 x9_3).f0, (rd_T54 x7_2 x9_3).f1, (rd_T54 x7_2 x9_3).f2, wrap64 (((rd_T54 x7_2 x9_3).f3) - 1)⟩ : S54) ) (fun _ hk => hk)
                have hx77_3 := hcc77 3 _ rfl
                (try simp only [show (k54).sz = 4 from rfl, Nat.mul_one, Nat.add_zero] at hx77_3)
                have hf77_3 := hfr77 3
                (try simp only [show (k54).sz = 4 from rfl, Nat.mul_one, Nat.add_zero] at hf77_3)
                clear hcl77 hcc77 hfr77 hM77
                try go_wp2_with (first | ((with_reducible refine gate_store (t := 3) (p := 98) rfl ?_); refine store_event (t := 3) (p := 98) (v := ?vo_w78) (w1 := (w75.setCell ⟨go72, (x9_3 : Int).toNat * 4 + 3, none⟩ (.int .i64 (wrap64 (((rd_T54 x7_2 x9_3).f3) - 1))))) ?hg ?ho ?hn ?hr ?_; (case ho => rfl); (case hg => rfl); (case hn => rfl); (case hr => first | (go_simp; done) | (go_simp; rfl)); intro w78 hw; have hg : w75.grownBy w78 (some go72) := (by rw [hw]; exact HP77.2); have hp_ : Kd.R k54 54 w78 w.heap.size (fun _ => True) (.slice (some ⟨go72, 0, none⟩) x7_2.length co25) y214 := (by rw [hw, Ny214.out]; exact HP77.1); clear HP77; have n0_ := Aside0.mk (hp_); have n1_ := Aside0.mk (HO_28.out); have n2_ := Aside0.mk (blk_grown (g := gb192) (o := .cells #[.int .i64 a0_0, .slice A0_1 l0_1.length c0_1] 31 (0, 0)) bkw hg (Kd.R_ne HO_7.out BK192.out (by decide))); have n3_ := Aside0.mk (blk_grown (g := gb193) (o := .cells #[.int .i64 x194000_2, .slice none 0 0] 31 (0, 0)) bkw hg (Kd.R_ne HO_7.out BK193.out (by decide))); have n4_ := Aside0.mk (Kd.R_over' (v := (.slice (some ⟨go72, 0, none⟩) x7_2.length co25)) (by (with_reducible repeat (first | apply Kd.R_alloc | apply Kd.R_drewN | apply Kd.R_drew)); exact HO210.out) (Kd.R_typed HO_7.out) (by decide) hg); have n5_ := Aside0.mk ((by rw [hw]; exact below_set (HB.out) GB72.out : Below w.heap.size w w78)); clear HO_7; clear HO_28; clear BK192; clear BK193; clear HO210; clear HB; have HO_7 := n0_; have HO_28 := n1_; have BK192 := n2_; have BK193 := n3_; have HO210 := n4_; have HB := n5_; clear n0_ n1_ n2_ n3_ n4_ n5_; clear hg hw hp_))
                have n0_ := Aside0.mk (Kd.R_drew HO_7.out)
                have n1_ := Aside0.mk (Kd.R_drew HO_28.out)
                have n2_ := Aside0.mk (Kd.R_drew HO210.out)
                have n3_ := Aside0.mk (blk_drew BK192.out)
                have n4_ := Aside0.mk (blk_drew BK193.out)
                have n5_ := Aside0.mk (below_drew1 HB.out)
                clear HO_7
                clear HO_28
                clear HO210
                clear BK192
                clear BK193
                clear HB
                have HO_7 := n0_
                have HO_28 := n1_
                have HO210 := n2_
                have BK192 := n3_
                have BK193 := n4_
                have HB := n5_
                clear n0_ n1_ n2_ n3_ n4_ n5_
                have p215 : 0 ≤ (x9_3 : Int) := odt
                have q215 : x9_3 < (y214.length : Int) := (by have h_ : (x9_3 : Int) < ((x7_2.length : Int) : Int) := odt; first | (have e_ := (Kd.R_reads' HO_7.out).1; omega) | simpa only [Ny214.out, List.length_set] using h_)
                have ql215 : ((x9_3 : Int) < ((x7_2.length : Int) : Int)) = True := eq_true odt
                obtain ⟨ad215, e215, hx215_0, hx215_1, hx215_2, hx215_3⟩ := at_T54 (Kd.R_reads' HO_7.out).2.2 x9_3 p215 q215
                obtain rfl : (⟨go72, 0, none⟩ : Addr) = ad215 := (by injection e215)
                (first | simp only [add_plain] at hx215_0 | simp only [add_at] at hx215_0 | simp only [Addr.add, Nat.zero_add] at hx215_0 | skip)
                (first | simp only [add_plain] at hx215_1 | simp only [add_at] at hx215_1 | simp only [Addr.add, Nat.zero_add] at hx215_1 | skip)
                (first | simp only [add_plain] at hx215_2 | simp only [add_at] at hx215_2 | simp only [Addr.add, Nat.zero_add] at hx215_2 | skip)
                (first | simp only [add_plain] at hx215_3 | simp only [add_at] at hx215_3 | simp only [Addr.add, Nat.zero_add] at hx215_3 | skip)
                replace p215 := eq_true p215
                replace q215 := eq_true q215
                have p216 : 0 ≤ (x9_3 : Int) := odt
                have q216 : x9_3 < (y214.length : Int) := (by have h_ : (x9_3 : Int) < ((x7_2.length : Int) : Int) := odt; first | (have e_ := (Kd.R_reads' HO_7.out).1; omega) | simpa only [Ny214.out, List.length_set] using h_)
                have ql216 : ((x9_3 : Int) < ((x7_2.length : Int) : Int)) = True := eq_true odt
                obtain ⟨ad216, e216, hx216_0, hx216_1, hx216_2, hx216_3⟩ := at_T54 (Kd.R_reads' HO_7.out).2.2 x9_3 p216 q216
                obtain rfl : (⟨go72, 0, none⟩ : Addr) = ad216 := (by injection e216)
                (first | simp only [add_plain] at hx216_0 | simp only [add_at] at hx216_0 | simp only [Addr.add, Nat.zero_add] at hx216_0 | skip)
                (first | simp only [add_plain] at hx216_1 | simp only [add_at] at hx216_1 | simp only [Addr.add, Nat.zero_add] at hx216_1 | skip)
                (first | simp only [add_plain] at hx216_2 | simp only [add_at] at hx216_2 | simp only [Addr.add, Nat.zero_add] at hx216_2 | skip)
                (first | simp only [add_plain] at hx216_3 | simp only [add_at] at hx216_3 | simp only [Addr.add, Nat.zero_add] at hx216_3 | skip)
                replace p216 := eq_true p216
                replace q216 := eq_true q216
                have p73 : 0 ≤ (x9_3 : Int) := odt
                have q73 : (x9_3 : Int) < ((x7_2.length : Int) : Int) := odt
                obtain ⟨ce73, hcl73, hM73, hcc73, hfr73⟩ := Kd.R_elem HO_7.out z54 (x9_3 : Int) p73 q73
                obtain rfl := k54_openM hM73
                have hx73_0 : World.cell? _ ⟨go72, (x9_3 : Int).toNat * 4, none⟩ = some (.int .i64 ((rd_T54 y214 x9_3).f0)) := hcc73 0 _ rfl
                have hx73_1 : World.cell? _ ⟨go72, (x9_3 : Int).toNat * 4 + 1, none⟩ = some (.int .i64 ((rd_T54 y214 x9_3).f1)) := hcc73 1 _ rfl
                have hx73_2 : World.cell? _ ⟨go72, (x9_3 : Int).toNat * 4 + 2, none⟩ = some (.int .i64 ((rd_T54 y214 x9_3).f2)) := hcc73 2 _ rfl
                have hx73_3 : World.cell? _ ⟨go72, (x9_3 : Int).toNat * 4 + 3, none⟩ = some (.int .i64 ((rd_T54 y214 x9_3).f3)) := hcc73 3 _ rfl
                have hf73_0 : World.frozen? _ ⟨go72, (x9_3 : Int).toNat * 4, none⟩ = false := hfr73 0
                have hf73_1 : World.frozen? _ ⟨go72, (x9_3 : Int).toNat * 4 + 1, none⟩ = false := hfr73 1
                have hf73_2 : World.frozen? _ ⟨go72, (x9_3 : Int).toNat * 4 + 2, none⟩ = false := hfr73 2
                have hf73_3 : World.frozen? _ ⟨go72, (x9_3 : Int).toNat * 4 + 3, none⟩ = false := hfr73 3
                clear hcl73 hcc73 hfr73 hM73
                replace p73 := eq_true p73
                replace q73 := eq_true q73
                obtain ⟨ce80, hcl80, hM80, hcc80, hfr80⟩ := Kd.R_elem HO_7.out z54 (x9_3 : Int) odt (by have h_ : (x9_3 : Int) < ((x7_2.length : Int) : Int) := odt; first | exact h_ | (have e_ := (Kd.R_reads' HO_7.out).1; omega) | simpa using h_)
                obtain rfl := k54_openM hM80
                have HP80 := (Kd.R_seg HO_7.out (x9_3 : Int) odt (by have h_ : (x9_3 : Int) < ((x7_2.length : Int) : Int) := odt; first | exact h_ | (have e_ := (Kd.R_reads' HO_7.out).1; omega) | simpa using h_) (seg := [.int .i64 (wrap64 (((rd_T54 y214 x9_3).f1) + ((rd_T54 y214 x9_3).f2)))]) (j := 1) hcl80 hcc80 (show 2 ≤ 4 from by decide) (x' := (⟨(rd_T54 y214 x9_3).f0, wrap64 (((rd_T54 y214 x9_3).f1) + ((rd_T54 y214 x9_3).f2)), (rd_T54 y214 x9_3).f2, (rd_T54 y214 x9_3).f3⟩ : S54)) (k54_mkM _ _ _ (⟨(rd_T54 y214 x9_3).f0, wrap64 (((rd_T54 y214 x9_3).f1) + ((rd_T54 y214 x9_3).f2)), (rd_T54 y214 x9_3).f2, (rd_T54 y214 x9_3).f3⟩ : S54) ) (fun _ hk => hk)).1
                rw [← Ny217.out] at HP80
                have HQ80 := Aside0.mk HP80
                clear hcl80 hcc80 hfr80 hM80 HP80
                refine start_ (n := 12) (S := fun w' => w'.cell? ⟨go72, (x9_3).toNat * 4, none⟩ = some (.int .i64 ((rd_T54 y214 x9_3).f0)) ∧ w'.cell? ⟨go72, (x9_3).toNat * 4 + 1, none⟩ = some (.int .i64 ((rd_T54 y214 x9_3).f1)) ∧ w'.cell? ⟨go72, (x9_3).toNat * 4 + 2, none⟩ = some (.int .i64 ((rd_T54 y214 x9_3).f2)) ∧ w'.cell? ⟨go72, (x9_3).toNat * 4 + 3, none⟩ = some (.int .i64 ((rd_T54 y214 x9_3).f3)) ∧ w'.cell? ⟨go72, (x9_3).toNat * 4, none⟩ = some (.int .i64 ((rd_T54 y214 x9_3).f0)) ∧ w'.cell? ⟨go72, (x9_3).toNat * 4 + 1, none⟩ = some (.int .i64 ((rd_T54 y214 x9_3).f1)) ∧ w'.cell? ⟨go72, (x9_3).toNat * 4 + 2, none⟩ = some (.int .i64 ((rd_T54 y214 x9_3).f2)) ∧ w'.cell? ⟨go72, (x9_3).toNat * 4 + 3, none⟩ = some (.int .i64 ((rd_T54 y214 x9_3).f3))) (ds := [11]) #[false, false, false, false, false, false, false, false, false, false, false, false] (by kernel_rfl) rfl rfl ⟨hx215_0, hx215_1, hx215_2, hx215_3, hx216_0, hx216_1, hx216_2, hx216_3⟩ (fun hHeld => ?_); refine with_tabW impl_RunClock.tab19 impl_RunClock.bits19 (fun HT_ HW_ => ?_)
                generalize w78.drew = w79 at HO_7 HO_28 HO210 BK192 BK193 HB HQ80 hf73_0 hf73_1 hf73_2 hf73_3 hx215_0 hx215_1 hx215_2 hx215_3 hx216_0 hx216_1 hx216_2 hx216_3 hx73_0 hx73_1 hx73_2 hx73_3 hHeld ⊢
                refine pure_ (i := 0) (N := some 99) (v := ?_) (a' := ?_) #[true, false, false, false, false, false, false, false, false, false, false, false] rfl rfl (any_of HT_.out (by kernel_rfl)) (fun _ _ _ h => h) (Or.inl ⟨by rfl, ?_⟩) ?_ ?_
                rotate_left; (· (intro w'; go_simp; with_reducible rfl)); rotate_left; (· (simp only [Act.put, sp1, sp2, sp3, i64_w, i32_w]; rfl))
                refine pure_ (i := 1) (N := some 100) (v := ?_) (a' := ?_) #[true, true, false, false, false, false, false, false, false, false, false, false] rfl rfl (any_of HT_.out (by kernel_rfl)) (fun _ _ _ h => h) (Or.inl ⟨by rfl, ?_⟩) ?_ ?_
                rotate_left; (· (intro w'; go_simp; with_reducible rfl)); rotate_left; (· (simp only [Act.put, sp1, sp2, sp3, i64_w, i32_w]; rfl))
                refine pure_ (i := 2) (N := some 101) (v := ?_) (a' := ?_) #[true, true, true, false, false, false, false, false, false, false, false, false] rfl rfl (any_of HT_.out (by kernel_rfl)) (fun _ _ _ h => h) (Or.inl ⟨by rfl, ?_⟩) ?_ ?_
                rotate_left; (· (intro w'; go_simp; with_reducible rfl)); rotate_left; (· (simp only [Act.put, sp1, sp2, sp3, i64_w, i32_w]; rfl))
                refine pure_ (i := 4) (N := some 103) (v := ?_) (a' := ?_) #[true, true, true, false, true, false, false, false, false, false, false, false] rfl rfl (any_of HT_.out (by kernel_rfl)) (fun _ _ _ h => h) (Or.inl ⟨by rfl, ?_⟩) ?_ ?_
                rotate_left; (· (intro w'; go_simp; with_reducible rfl)); rotate_left; (· (simp only [Act.put, sp1, sp2, sp3, i64_w, i32_w]; rfl))
                refine pure_ (i := 5) (N := some 104) (v := ?_) (a' := ?_) #[true, true, true, false, true, true, false, false, false, false, false, false] rfl rfl (any_of HT_.out (by kernel_rfl)) (fun _ _ _ h => h) (Or.inl ⟨by rfl, ?_⟩) ?_ ?_
                rotate_left; (· (intro w'; go_simp; with_reducible rfl)); rotate_left; (· (simp only [Act.put, sp1, sp2, sp3, i64_w, i32_w]; rfl))
                refine pure_ (i := 6) (N := some 105) (v := ?_) (a' := ?_) #[true, true, true, false, true, true, true, false, false, false, false, false] rfl rfl (any_of HT_.out (by kernel_rfl)) (fun _ _ _ h => h) (Or.inl ⟨by rfl, ?_⟩) ?_ ?_
                rotate_left; (· (intro w'; go_simp; with_reducible rfl)); rotate_left; (· (simp only [Act.put, sp1, sp2, sp3, i64_w, i32_w]; rfl))
                refine take_ (i := 3) (N := some 102) (v := ?_) (a' := ?_) #[true, true, true, true, true, true, true, false, false, false, false, false] rfl rfl (take_ofW HT_.out HW_.out (by kernel_rfl)) (fun _ _ _ h => h) (Or.inl ⟨by rfl, ?_⟩) hHeld ?_ ?_
                rotate_left; (· (rintro w' ⟨s0, s1, s2, s3, s4, s5, s6, s7⟩; go_simp; with_reducible rfl)); rotate_left; (· (simp only [Act.put, sp1, sp2, sp3, i64_w, i32_w]; rfl))
                refine take_ (i := 7) (N := some 106) (v := ?_) (a' := ?_) #[true, true, true, true, true, true, true, true, false, false, false, false] rfl rfl (take_ofW HT_.out HW_.out (by kernel_rfl)) (fun _ _ _ h => h) (Or.inl ⟨by rfl, ?_⟩) hHeld ?_ ?_
                rotate_left; (· (rintro w' ⟨s0, s1, s2, s3, s4, s5, s6, s7⟩; go_simp; with_reducible rfl)); rotate_left; (· (simp only [Act.put, sp1, sp2, sp3, i64_w, i32_w]; rfl))
                refine pure_ (i := 8) (N := some 107) (v := ?_) (a' := ?_) #[true, true, true, true, true, true, true, true, true, false, false, false] rfl rfl (any_of HT_.out (by kernel_rfl)) (fun _ _ _ h => h) (Or.inl ⟨by rfl, ?_⟩) ?_ ?_
                rotate_left; (· (intro w'; go_simp; with_reducible rfl)); rotate_left; (· (simp only [Act.put, sp1, sp2, sp3, i64_w, i32_w]; rfl))
                refine pure_ (i := 9) (N := some 108) (v := ?_) (a' := ?_) #[true, true, true, true, true, true, true, true, true, true, false, false] rfl rfl (any_of HT_.out (by kernel_rfl)) (fun _ _ _ h => h) (Or.inl ⟨by rfl, ?_⟩) ?_ ?_
                rotate_left; (· (intro w'; go_simp; with_reducible rfl)); rotate_left; (· (simp only [Act.put, sp1, sp2, sp3, i64_w, i32_w]; rfl))
                refine pure_ (i := 10) (N := some 109) (v := ?_) (a' := ?_) #[true, true, true, true, true, true, true, true, true, true, true, false] rfl rfl (any_of HT_.out (by kernel_rfl)) (fun _ _ _ h => h) (Or.inl ⟨by rfl, ?_⟩) ?_ ?_
                rotate_left; (· (intro w'; go_simp; with_reducible rfl)); rotate_left; (· (simp only [Act.put, sp1, sp2, sp3, i64_w, i32_w]; rfl))
                refine last_ (i := 11) (N := none) #[true, true, true, true, true, true, true, true, true, true, true, true] rfl rfl (one_of HT_.out (by kernel_rfl)) (by decide) (fun K hK => ?_)
                refine skip_ (w1 := ?_) (by rfl) rfl ?_ ?_
                rotate_left
                ·go_simp
                 rfl
                refine hK.out _ _ ?_
                clear hK K
                refine done_ (done_of HT_.out (by kernel_rfl)) ?_
                try go_wp2
                obtain ⟨gx_, cx_, ex_, _, _, clx_, HGx_⟩ := Kd.R_form HO_7.out (by have h_ := of_eq_true q216; have p_ := of_eq_true p216; omega)
                have hx_ : gx_ = go72 := (by injection ex_ with ea_; injection ea_ with ea_; injection ea_ with ea_; exact ea_.symm)
                rw [hx_] at HGx_
                go_roundg k3
                case measure => have := HJ2.out; have := HK2.out; have := HK3.out; omega
                case rel => exact ⟨(y217), (y208), (x194000_2), H', ⟨by have := HJ2.out; have := HK2.out; have := HK3.out; omega⟩, ⟨by (with_reducible repeat (first | apply Kd.R_alloc | apply Kd.R_drewN | apply Kd.R_drew)); exact HQ80.out⟩, ⟨by (with_reducible repeat (first | apply Kd.R_alloc | apply Kd.R_drewN | apply Kd.R_drew)); exact Kd.R_mono (Kd.R_far (p := ⟨go72, (x9_3 : Int).toNat * 4 + 1, none⟩) (Kd.R_types HO210.out HGx_ (by decide)) (fun _ hk => hk.2) (.int .i64 (wrap64 (((rd_T54 y214 x9_3).f1) + ((rd_T54 y214 x9_3).f2))))) (fun _ hk => trivial)⟩, ⟨by (with_reducible repeat (first | refine blk_drewN ?_ _ | refine blk_drew ?_ | refine blk_alloc ?_ _)); refine blk_far ?_ (by have h_ := Kd.R_ne HO_7.out BK192.out (by decide); intro e_; exact h_ (by rw [e_]; rfl)) _; (with_reducible repeat (first | refine blk_drewN ?_ _ | refine blk_drew ?_ | refine blk_alloc ?_ _)); exact BK192.out⟩, ⟨by (with_reducible repeat (first | refine blk_drewN ?_ _ | refine blk_drew ?_ | refine blk_alloc ?_ _)); refine blk_far ?_ (by have h_ := Kd.R_ne HO_7.out BK193.out (by decide); intro e_; exact h_ (by rw [e_]; rfl)) _; (with_reducible repeat (first | refine blk_drewN ?_ _ | refine blk_drew ?_ | refine blk_alloc ?_ _)); exact BK193.out⟩, ⟨blw⟩⟩
               ·rw [if_neg c71] at H
                have c71b0 : decide (1 < ((rd_T54 x7_2 x9_3).f3)) = false := decide_eq_false c71
                clear c71
                have c81b0 := eq_true (odt : 0 ≤ x9_3)
                by_cases c82 : x9_3 ≤ (x7_2.length : Int)
                ·rw [if_pos c82] at H
                 have c82b0 := eq_true c82
                 have c82b1 : decide (x9_3 ≤ (x7_2.length : Int)) = true := decide_eq_true c82
                 clear c82
                 obtain ⟨y218, hy218⟩ : ∃ y_ : List (S54), y_ = (x7_2.take (x9_3 : Int).toNat) := ⟨_, rfl⟩
                 replace H : (if 0 ≤ (wrap64 (x9_3 + 1)) then (if (wrap64 (x9_3 + 1)) ≤ (x7_2.length : Int) then (impl_RunClock.l0 k3 a1 (x7_2.eraseIdx (x9_3 : Int).toNat) y208) else (none)) else (none)) = some (r1, r2, r3, r4) := by first | (rw [hy218]; with_reducible exact H) | (have H2_ := (Option.bind_some _ _).symm.trans H; rw [hy218]; with_reducible exact H2_) | (have H2_ := (Option.bind_some _ _).symm.trans H; with_reducible exact H2_) | with_reducible exact H | (rw [hy218]; exact H) | exact H
                 have Ny218 := Aside0.mk hy218
                 clear hy218
                 obtain ⟨ji83, hji83⟩ : ∃ j_ : Int, (wrap64 (x9_3 + 1)) = j_ := ⟨_, rfl⟩
                 replace H : (if 0 ≤ (ji83) then (if (ji83) ≤ (x7_2.length : Int) then (impl_RunClock.l0 k3 a1 (x7_2.eraseIdx (x9_3 : Int).toNat) y208) else (none)) else (none)) = some (r1, r2, r3, r4) := by first | (rw [hji83] at H; exact H) | (simp only [hji83] at H ⊢; exact H)
                 have hji83w : (IntKind.i64.wrap (x9_3 + 1)) = ji83 := (i64_w _).trans hji83
                 by_cases c84 : 0 ≤ (ji83)
                 ·rw [if_pos c84] at H
                  have c84b0 := eq_true c84
                  have c84b1 : decide (0 ≤ (ji83)) = true := decide_eq_true c84
                  clear c84
                  by_cases c85 : (ji83) ≤ (x7_2.length : Int)
                  ·rw [if_pos c85] at H
                   have c85b0 := eq_true c85
                   have c85b1 : decide ((ji83) ≤ (x7_2.length : Int)) = true := decide_eq_true c85
                   clear c85
                   obtain ⟨y222, hy222⟩ : ∃ y_ : List (S54), y_ = (x7_2.drop ((ji83) : Int).toNat) := ⟨_, rfl⟩
                   replace H : (impl_RunClock.l0 k3 a1 (x7_2.eraseIdx (x9_3 : Int).toNat) y208) = some (r1, r2, r3, r4) := by first | (rw [hy222]; with_reducible exact H) | (have H2_ := (Option.bind_some _ _).symm.trans H; rw [hy222]; with_reducible exact H2_) | (have H2_ := (Option.bind_some _ _).symm.trans H; with_reducible exact H2_) | with_reducible exact H | (rw [hy222]; exact H) | exact H
                   have Ny222 := Aside0.mk hy222
                   clear hy222
                   obtain ⟨y226, hy226⟩ : ∃ y_ : List (S54), y_ = (x7_2.eraseIdx (x9_3 : Int).toNat) := ⟨_, rfl⟩
                   replace H : (impl_RunClock.l0 k3 a1 y226 y208) = some (r1, r2, r3, r4) := by first | (rw [hy226]; with_reducible exact H) | (have H2_ := (Option.bind_some _ _).symm.trans H; rw [hy226]; with_reducible exact H2_) | (have H2_ := (Option.bind_some _ _).symm.trans H; with_reducible exact H2_) | with_reducible exact H | (rw [hy226]; exact H) | exact H
                   have Ny226 := Aside0.mk hy226
                   clear hy226
                   have H' := Aside0.mk H
                   clear H
                   have p205 : 0 ≤ (x9_3 : Int) := odt
                   have q205 : x9_3 < (x7_2.length : Int) := odt
                   obtain ⟨ad205, e205, hx205_0, hx205_1, hx205_2, hx205_3⟩ := at_T54 (Kd.R_reads' HO_7.out).2.2 x9_3 p205 q205
                   cases e205
                   replace p205 := eq_true p205
                   replace q205 := eq_true q205
                   try go_wp2
                   have n0_ := Aside0.mk (Kd.R_drew HO_7.out)
                   have n1_ := Aside0.mk (Kd.R_drew HO_8.out)
                   have n2_ := Aside0.mk (Kd.R_drew HO_28.out)
                   have n3_ := Aside0.mk (blk_drew BK192.out)
                   have n4_ := Aside0.mk (blk_drew BK193.out)
                   have n5_ := Aside0.mk (below_drew1 HB.out)
                   clear HO_7
                   clear HO_8
                   clear HO_28
                   clear BK192
                   clear BK193
                   clear HB
                   have HO_7 := n0_
                   have HO_8 := n1_
                   have HO_28 := n2_
                   have BK192 := n3_
                   have BK193 := n4_
                   have HB := n5_
                   clear n0_ n1_ n2_ n3_ n4_ n5_
                   have p206 : 0 ≤ (x9_3 : Int) := odt
                   have q206 : x9_3 < (x7_2.length : Int) := odt
                   obtain ⟨ad206, e206, hx206_0, hx206_1, hx206_2, hx206_3⟩ := at_T54 (Kd.R_reads' HO_7.out).2.2 x9_3 p206 q206
                   obtain rfl : ad205 = ad206 := (by injection e206)
                   replace p206 := eq_true p206
                   replace q206 := eq_true q206
                   have p207 : 0 ≤ (x9_3 : Int) := odt
                   have q207 : x9_3 < (x7_2.length : Int) := odt
                   obtain ⟨ad207, e207, hx207_0, hx207_1, hx207_2, hx207_3⟩ := at_T54 (Kd.R_reads' HO_7.out).2.2 x9_3 p207 q207
                   obtain rfl : ad205 = ad207 := (by injection e207)
                   replace p207 := eq_true p207
                   replace q207 := eq_true q207
                   refine start_ (n := 13) (S := fun w' => w'.cell? (ad205.add ((x9_3).toNat * 4)) = some (.int .i64 ((rd_T54 x7_2 x9_3).f0)) ∧ w'.cell? ⟨(ad205.add ((x9_3).toNat * 4)).block, (ad205.add ((x9_3).toNat * 4)).off + 1, none⟩ = some (.int .i64 ((rd_T54 x7_2 x9_3).f1)) ∧ w'.cell? ⟨(ad205.add ((x9_3).toNat * 4)).block, (ad205.add ((x9_3).toNat * 4)).off + 2, none⟩ = some (.int .i64 ((rd_T54 x7_2 x9_3).f2)) ∧ w'.cell? ⟨(ad205.add ((x9_3).toNat * 4)).block, (ad205.add ((x9_3).toNat * 4)).off + 3, none⟩ = some (.int .i64 ((rd_T54 x7_2 x9_3).f3)) ∧ w'.cell? (ad205.add ((x9_3).toNat * 4)) = some (.int .i64 ((rd_T54 x7_2 x9_3).f0)) ∧ w'.cell? ⟨(ad205.add ((x9_3).toNat * 4)).block, (ad205.add ((x9_3).toNat * 4)).off + 1, none⟩ = some (.int .i64 ((rd_T54 x7_2 x9_3).f1)) ∧ w'.cell? ⟨(ad205.add ((x9_3).toNat * 4)).block, (ad205.add ((x9_3).toNat * 4)).off + 2, none⟩ = some (.int .i64 ((rd_T54 x7_2 x9_3).f2)) ∧ w'.cell? ⟨(ad205.add ((x9_3).toNat * 4)).block, (ad205.add ((x9_3).toNat * 4)).off + 3, none⟩ = some (.int .i64 ((rd_T54 x7_2 x9_3).f3))) (ds := [10, 11]) #[false, false, false, false, false, false, false, false, false, false, false, false, false] (by kernel_rfl) rfl rfl ⟨hx206_0, hx206_1, hx206_2, hx206_3, hx207_0, hx207_1, hx207_2, hx207_3⟩ (fun hHeld => ?_); refine with_tabW impl_RunClock.tab14 impl_RunClock.bits14 (fun HT_ HW_ => ?_)
                   generalize wr.drew = w86 at HO_7 HO_8 HO_28 BK192 BK193 HB hx206_0 hx206_1 hx206_2 hx206_3 hx207_0 hx207_1 hx207_2 hx207_3 hHeld ⊢
                   refine pure_ (i := 0) (N := some 64) (v := ?_) (a' := ?_) #[true, false, false, false, false, false, false, false, false, false, false, false, false] rfl rfl (any_of HT_.out (by kernel_rfl)) (fun _ _ _ h => h) (Or.inl ⟨by rfl, ?_⟩) ?_ ?_
                   rotate_left; (· (intro w'; go_simp; with_reducible rfl)); rotate_left; (· (simp only [Act.put, sp1, sp2, sp3, i64_w, i32_w]; rfl))
                   refine pure_ (i := 1) (N := some 65) (v := ?_) (a' := ?_) #[true, true, false, false, false, false, false, false, false, false, false, false, false] rfl rfl (any_of HT_.out (by kernel_rfl)) (fun _ _ _ h => h) (Or.inl ⟨by rfl, ?_⟩) ?_ ?_
                   rotate_left; (· (intro w'; go_simp; with_reducible rfl)); rotate_left; (· (simp only [Act.put, sp1, sp2, sp3, i64_w, i32_w]; rfl))
                   refine pure_ (i := 2) (N := some 66) (v := ?_) (a' := ?_) #[true, true, true, false, false, false, false, false, false, false, false, false, false] rfl rfl (any_of HT_.out (by kernel_rfl)) (fun _ _ _ h => h) (Or.inl ⟨by rfl, ?_⟩) ?_ ?_
                   rotate_left; (· (intro w'; go_simp; with_reducible rfl)); rotate_left; (· (simp only [Act.put, sp1, sp2, sp3, i64_w, i32_w]; rfl))
                   refine pure_ (i := 3) (N := some 67) (v := ?_) (a' := ?_) #[true, true, true, true, false, false, false, false, false, false, false, false, false] rfl rfl (any_of HT_.out (by kernel_rfl)) (fun _ _ _ h => h) (Or.inl ⟨by rfl, ?_⟩) ?_ ?_
                   rotate_left; (· (intro w'; go_simp; with_reducible rfl)); rotate_left; (· (simp only [Act.put, sp1, sp2, sp3, i64_w, i32_w]; rfl))
                   refine pure_ (i := 5) (N := some 69) (v := ?_) (a' := ?_) #[true, true, true, true, false, true, false, false, false, false, false, false, false] rfl rfl (any_of HT_.out (by kernel_rfl)) (fun _ _ _ h => h) (Or.inl ⟨by rfl, ?_⟩) ?_ ?_
                   rotate_left; (· (intro w'; go_simp; with_reducible rfl)); rotate_left; (· (simp only [Act.put, sp1, sp2, sp3, i64_w, i32_w]; rfl))
                   refine pure_ (i := 6) (N := some 70) (v := ?_) (a' := ?_) #[true, true, true, true, false, true, true, false, false, false, false, false, false] rfl rfl (any_of HT_.out (by kernel_rfl)) (fun _ _ _ h => h) (Or.inl ⟨by rfl, ?_⟩) ?_ ?_
                   rotate_left; (· (intro w'; go_simp; with_reducible rfl)); rotate_left; (· (simp only [Act.put, sp1, sp2, sp3, i64_w, i32_w]; rfl))
                   refine pure_ (i := 7) (N := some 71) (v := ?_) (a' := ?_) #[true, true, true, true, false, true, true, true, false, false, false, false, false] rfl rfl (any_of HT_.out (by kernel_rfl)) (fun _ _ _ h => h) (Or.inl ⟨by rfl, ?_⟩) ?_ ?_
                   rotate_left; (· (intro w'; go_simp; with_reducible rfl)); rotate_left; (· (simp only [Act.put, sp1, sp2, sp3, i64_w, i32_w]; rfl))
                   refine take_ (i := 4) (N := some 68) (v := ?_) (a' := ?_) #[true, true, true, true, true, true, true, true, false, false, false, false, false] rfl rfl (take_ofW HT_.out HW_.out (by kernel_rfl)) (fun _ _ _ h => h) (Or.inl ⟨by rfl, ?_⟩) hHeld ?_ ?_
                   rotate_left; (· (rintro w' ⟨s0, s1, s2, s3, s4, s5, s6, s7⟩; go_simp; with_reducible rfl)); rotate_left; (· (simp only [Act.put, sp1, sp2, sp3, i64_w, i32_w]; rfl))
                   refine take_ (i := 8) (N := some 72) (v := ?_) (a' := ?_) #[true, true, true, true, true, true, true, true, true, false, false, false, false] rfl rfl (take_ofW HT_.out HW_.out (by kernel_rfl)) (fun _ _ _ h => h) (Or.inl ⟨by rfl, ?_⟩) hHeld ?_ ?_
                   rotate_left; (· (rintro w' ⟨s0, s1, s2, s3, s4, s5, s6, s7⟩; go_simp; with_reducible rfl)); rotate_left; (· (simp only [Act.put, sp1, sp2, sp3, i64_w, i32_w]; rfl))
                   refine pure_ (i := 9) (N := some 73) (v := ?_) (a' := ?_) #[true, true, true, true, true, true, true, true, true, true, false, false, false] rfl rfl (any_of HT_.out (by kernel_rfl)) (fun _ _ _ h => h) (Or.inl ⟨by rfl, ?_⟩) ?_ ?_
                   rotate_left; (· (intro w'; go_simp; with_reducible rfl)); rotate_left; (· (simp only [Act.put, sp1, sp2, sp3, i64_w, i32_w]; rfl))
                   refine last_ (i := 10) (N := some 74) #[true, true, true, true, true, true, true, true, true, true, true, false, false] rfl rfl (one_of HT_.out (by kernel_rfl)) (by decide) (fun K hK => ?_)
                   refine value_ (w1 := ?_) (v := ?_) (by rfl) rfl ?_ ?_
                   rotate_left 2
                   ·go_simp
                    constructor
                    ·rfl
                    ·rfl
                   refine hK.out _ _ ?_
                   clear hK K
                   refine norm_ (a' := ?_) ?_ ?_
                   rotate_left
                   ·show Act.put _ (some 74) _ = _
                    simp only [Act.put, sp1, sp2, sp3, i64_w, i32_w]
                    rfl
                   refine last_ (i := 11) (N := some 75) #[true, true, true, true, true, true, true, true, true, true, true, true, false] rfl rfl (one_of HT_.out (by kernel_rfl)) (by decide) (fun K hK => ?_)
                   refine Kd.R_append_step k56 (w0 := w) w.heap.size (by rfl) (.tmp 64) (.tmp 74) 32 56 (.agg #[(.int .i64 0), (.int .i64 0)]) 16 rfl Try.underlying32 info56 rfl (by decide) (by omega) u8 x8_2 (⟨(rd_T54 x7_2 x9_3).f1, (rd_T54 x7_2 x9_3).f0⟩ : S56) [.int .i64 ((rd_T54 x7_2 x9_3).f1), .int .i64 ((rd_T54 x7_2 x9_3).f0)] (fun _ => True) (fun _ => False) rfl rfl ?aP (fun _ hk => hk.elim) ?aF ?aO ?aB ?aS ?aL ?_
                   (case aP => exact k56_mkM _ _ _ (⟨(rd_T54 x7_2 x9_3).f1, (rd_T54 x7_2 x9_3).f0⟩ : S56))
                   (case aB => exact blw)
                   (case aF => exact (fun _ _ => trivial))
                   (case aO => exact (by (with_reducible repeat (first | apply Kd.R_alloc | apply Kd.R_drewN | apply Kd.R_drew)); exact HO_8.out))
                   (case aS => exact (below_size blw))
                   (case aL => have := LMc63.out; omega)
                   intro v209 w87 ho hb hg hat
                   rw [← Ny208.out] at ho
                   have n0_ := Aside0.mk (Kd.R_over' (by (with_reducible repeat (first | apply Kd.R_alloc | apply Kd.R_drewN | apply Kd.R_drew)); exact HO_7.out) (Kd.R_typed (by (with_reducible repeat (first | apply Kd.R_alloc | apply Kd.R_drewN | apply Kd.R_drew)); exact HO_8.out)) (by decide) hg)
                   have n1_ := Aside0.mk (Kd.R_over' (by (with_reducible repeat (first | apply Kd.R_alloc | apply Kd.R_drewN | apply Kd.R_drew)); exact HO_28.out) (Kd.R_typed (by (with_reducible repeat (first | apply Kd.R_alloc | apply Kd.R_drewN | apply Kd.R_drew)); exact HO_8.out)) (by decide) hg)
                   have n2_ := Aside0.mk (blk_grown (g := gb192) (o := .cells #[.int .i64 a0_0, .slice A0_1 l0_1.length c0_1] 31 (0, 0)) bkw hg (Kd.R_ne HO_8.out BK192.out (by decide)))
                   have n3_ := Aside0.mk (blk_grown (g := gb193) (o := .cells #[.int .i64 x194000_2, .slice none 0 0] 31 (0, 0)) bkw hg (Kd.R_ne HO_8.out BK193.out (by decide)))
                   have n4_ := Aside0.mk (hb)
                   have n5_ := Aside0.mk (ho)
                   clear HO_7
                   clear HO_28
                   clear BK192
                   clear BK193
                   clear HB
                   clear HO_8
                   have HO_7 := n0_
                   have HO_28 := n1_
                   have BK192 := n2_
                   have BK193 := n3_
                   have HB := n4_
                   have HO210 := n5_
                   clear n0_ n1_ n2_ n3_ n4_ n5_
                   clear ho hb hg hat
                   refine hK.out _ _ ?_
                   clear hK K
                   refine norm_ (a' := ?_) ?_ ?_
                   rotate_left
                   ·show Act.put _ (some 75) _ = _
                    simp only [Act.put, sp1, sp2, sp3, i64_w, i32_w]
                    rfl
                   refine pure_ (i := 12) (N := some 8) (v := ?_) (a' := ?_) #[true, true, true, true, true, true, true, true, true, true, true, true, true] rfl rfl (any_of HT_.out (by kernel_rfl)) (fun _ _ _ h => h) (Or.inl ⟨by rfl, ?_⟩) ?_ ?_
                   rotate_left; (· (intro w'; go_simp; with_reducible rfl)); rotate_left; (· (simp only [Act.put, sp1, sp2, sp3, i64_w, i32_w]; rfl))
                   refine done_ (done_of HT_.out (by kernel_rfl)) ?_
                   obtain ⟨Ao88, co88, eo88⟩ := Kd.R_slice HO210.out
                   subst eo88
                   have p211 : 0 ≤ (x9_3 : Int) := odt
                   have q211 : x9_3 < (x7_2.length : Int) := odt
                   obtain ⟨ad211, e211, hx211_0, hx211_1, hx211_2, hx211_3⟩ := at_T54 (Kd.R_reads' HO_7.out).2.2 x9_3 p211 q211
                   obtain rfl : ad205 = ad211 := (by injection e211)
                   replace p211 := eq_true p211
                   replace q211 := eq_true q211
                   have p212 : 0 ≤ (x9_3 : Int) := odt
                   have q212 : x9_3 < (x7_2.length : Int) := odt
                   obtain ⟨ad212, e212, hx212_0, hx212_1, hx212_2, hx212_3⟩ := at_T54 (Kd.R_reads' HO_7.out).2.2 x9_3 p212 q212
                   obtain rfl : ad205 = ad212 := (by injection e212)
                   replace p212 := eq_true p212
                   replace q212 := eq_true q212
                   have q89 : (x9_3 : Int) ≤ ((x7_2.length : Int) : Int) := odt
                   obtain ⟨i089, hi089, _, hsz89, _⟩ := info_parts info54
                   have hroom89 : x7_2.length ≤ co25 := (Kd.R_reads' HO_7.out).2.1
                   have hC89 : Kd.C k54 _ (some ad205) x7_2.length x7_2 := (Kd.R_reads' HO_7.out).2.2
                   have hcut89 := cut_to (P := Try.prog) 29 54 .i64 Try.underlying29 hi089 (some ad205) x7_2.length co25 x9_3 odt q89 hroom89
                   have hr89 := Kd.C_take (m := (x9_3 : Int).toNat) hC89 (by omega)
                   have hy89 : y218.length = (x9_3 : Int).toNat := (by rw [Ny218.out, List.length_take]; omega)
                   rw [← Ny218.out] at hr89
                   rw [← hy89] at hcut89
                   have HR221 := Aside0.mk hr89
                   have HC221 := Aside0.mk (show y218.length ≤ co25 from by omega)
                   clear hr89 hC89 hroom89 hi089 hsz89
                   have KY89 := Aside0.mk hy89
                   clear hy89
                   have KL89 := Aside0.mk (show (x9_3 : Int).toNat ≤ x7_2.length from by omega)
                   replace q89 := eq_true q89
                   have q90 : ((ji83) : Int) ≤ ((x7_2.length : Int) : Int) := odt
                   obtain ⟨i090, hi090, _, hsz90, _⟩ := info_parts info54
                   have hroom90 : x7_2.length ≤ co25 := (Kd.R_reads' HO_7.out).2.1
                   have hC90 : Kd.C k54 _ (some ad205) x7_2.length x7_2 := (Kd.R_reads' HO_7.out).2.2
                   have q090 : (0 : Int) ≤ ((ji83) : Int) := odt
                   have hcut90 := cut_from (P := Try.prog) 29 54 .i64 Try.underlying29 hi090 4 hsz90 (some ad205) x7_2.length co25 (ji83) q090 q90
                   have hr90 := Kd.C_drop (m := ((ji83) : Int).toNat) (c := co25) hC90 (by omega) hroom90
                   obtain ⟨A90, hA90⟩ : ∃ A1, A1 = (if co25 = ((ji83) : Int).toNat then (some ad205) else ((some ad205) : Option Addr).map (·.add (((ji83) : Int).toNat * 4))) := ⟨_, rfl⟩
                   obtain ⟨c90, hc90⟩ : ∃ c1, c1 = co25 - ((ji83) : Int).toNat := ⟨_, rfl⟩
                   have hy90 : y222.length = x7_2.length - ((ji83) : Int).toNat := (by rw [Ny222.out, List.length_drop] <;> omega)
                   rw [show (x7_2).drop ((ji83) : Int).toNat = y222 from Ny222.out.symm] at hr90
                   replace hr90 : Kd.C k54 _ A90 y222.length y222 := (by rw [hA90]; exact hr90)
                   rw [← hy90, ← hA90, ← hc90] at hcut90
                   have HR225 := Aside0.mk hr90
                   have HC225 := Aside0.mk (show y222.length ≤ c90 from by rw [hy90, hc90]; exact Nat.sub_le_sub_right hroom90 _)
                   clear hr90 hC90 hroom90 hi090 hsz90 hc90
                   have KY90 := Aside0.mk hy90
                   have KA90 := Aside0.mk hA90
                   clear hy90 hA90
                   have KL90 := Aside0.mk (show ((ji83) : Int).toNat ≤ x7_2.length from by omega)
                   replace q90 := eq_true q90
                   go_wp2_with fail
                   have hj_ : 0 ≤ (x9_3 : Int) := odt
                   have hl_ : (ji83 : Int) ≤ (x7_2.length : Int) := odt
                   have hh_ : (x9_3 : Int) ≤ (x7_2.length : Int) := odt
                   have hb_ := (Kd.R_reads' HO_7.out).2.2.2.1
                   have h0_ : (0 : Int) ≤ (ji83 : Int) := odt
                   have hw_ : (ji83 : Int) = x9_3 + 1 := (by have h00_ := h0_; rw [← hji83] at h00_ ⊢; unfold wrap64 at h00_ ⊢; omega)
                   obtain ⟨gd92, cap_, ev_, _⟩ := Kd.R_form HO_7.out (by omega)
                   injection ev_ with ea_ _ ec_
                   subst ec_
                   (first | subst ea_ | (injection ea_ with ea_; subst ea_))
                   refine (impl_RunClock.del (w0 := w) (base := w.heap.size) (g := gd92) (c := co25) hj_ (by omega) hw_ (by (with_reducible repeat (first | apply Kd.R_alloc | apply Kd.R_drewN | apply Kd.R_drew)); exact HO_7.out) blw (below_size blw)).mono ?_
                   rintro e w91 ⟨rfl, ho, hb, hg⟩
                   clear hj_ hl_ hh_ hb_ hw_ h0_
                   rw [← Ny226.out] at ho
                   have hn_ : x7_2.length - 1 = y226.length := (by have := (Kd.R_reads' ho).1; omega)
                   rw [hn_] at ho ⊢
                   clear hn_
                   have n0_ := Aside0.mk (ho)
                   have n1_ := Aside0.mk (HO_28.out)
                   have n2_ := Aside0.mk (blk_grown (g := gb192) (o := .cells #[.int .i64 a0_0, .slice A0_1 l0_1.length c0_1] 31 (0, 0)) (blk_drew bkw) hg (Kd.R_ne HO_7.out BK192.out (by decide)))
                   have n3_ := Aside0.mk (blk_grown (g := gb193) (o := .cells #[.int .i64 x194000_2, .slice none 0 0] 31 (0, 0)) (blk_drew bkw) hg (Kd.R_ne HO_7.out BK193.out (by decide)))
                   have n4_ := Aside0.mk (Kd.R_over' (v := (.slice (some ⟨gd92, 0, none⟩) x7_2.length co25)) (Kd.R_drew (by (with_reducible repeat (first | apply Kd.R_alloc | apply Kd.R_drewN | apply Kd.R_drew)); exact HO210.out)) (Kd.R_typed (Kd.R_drew HO_7.out)) (by decide) hg)
                   have n5_ := Aside0.mk (hb)
                   clear HO_7
                   clear HO_28
                   clear BK192
                   clear BK193
                   clear HO210
                   clear HB
                   have HO_7 := n0_
                   have HO_28 := n1_
                   have BK192 := n2_
                   have BK193 := n3_
                   have HO210 := n4_
                   have HB := n5_
                   clear n0_ n1_ n2_ n3_ n4_ n5_
                   clear ho hb hg
                   go_wp2
                   go_roundg k3
                   case measure => have := HJ2.out; have := HK2.out; have := HK3.out; omega
                   case rel => exact ⟨(y226), (y208), (x194000_2), H', ⟨by have := HJ2.out; have := HK2.out; have := HK3.out; omega⟩, ⟨by (with_reducible repeat (first | apply Kd.R_alloc | apply Kd.R_drewN | apply Kd.R_drew)); exact HO_7.out⟩, ⟨by (with_reducible repeat (first | apply Kd.R_alloc | apply Kd.R_drewN | apply Kd.R_drew)); exact HO210.out⟩, ⟨by (with_reducible repeat (first | refine blk_drewN ?_ _ | refine blk_drew ?_ | refine blk_alloc ?_ _)); exact BK192.out⟩, ⟨by (with_reducible repeat (first | refine blk_drewN ?_ _ | refine blk_drew ?_ | refine blk_alloc ?_ _)); exact BK193.out⟩, ⟨blw⟩⟩
                  ·rw [if_neg c85] at H
                   exact absurd H (by simp)
                 ·rw [if_neg c84] at H
                  exact absurd H (by simp)
                ·rw [if_neg c82] at H
                 exact absurd H (by simp)
              ·rw [if_neg c70] at H
               have c70b0 : decide (0 < ((rd_T54 x7_2 x9_3).f2)) = false := decide_eq_false c70
               clear c70
               have c93b0 := eq_true (odt : 0 ≤ x9_3)
               by_cases c94 : x9_3 ≤ (x7_2.length : Int)
               ·rw [if_pos c94] at H
                have c94b0 := eq_true c94
                have c94b1 : decide (x9_3 ≤ (x7_2.length : Int)) = true := decide_eq_true c94
                clear c94
                obtain ⟨y229, hy229⟩ : ∃ y_ : List (S54), y_ = (x7_2.take (x9_3 : Int).toNat) := ⟨_, rfl⟩
                replace H : (if 0 ≤ (wrap64 (x9_3 + 1)) then (if (wrap64 (x9_3 + 1)) ≤ (x7_2.length : Int) then (impl_RunClock.l0 k3 a1 (x7_2.eraseIdx (x9_3 : Int).toNat) y208) else (none)) else (none)) = some (r1, r2, r3, r4) := by first | (rw [hy229]; with_reducible exact H) | (have H2_ := (Option.bind_some _ _).symm.trans H; rw [hy229]; with_reducible exact H2_) | (have H2_ := (Option.bind_some _ _).symm.trans H; with_reducible exact H2_) | with_reducible exact H | (rw [hy229]; exact H) | exact H
                have Ny229 := Aside0.mk hy229
                clear hy229
                obtain ⟨ji95, hji95⟩ : ∃ j_ : Int, (wrap64 (x9_3 + 1)) = j_ := ⟨_, rfl⟩
                replace H : (if 0 ≤ (ji95) then (if (ji95) ≤ (x7_2.length : Int) then (impl_RunClock.l0 k3 a1 (x7_2.eraseIdx (x9_3 : Int).toNat) y208) else (none)) else (none)) = some (r1, r2, r3, r4) := by first | (rw [hji95] at H; exact H) | (simp only [hji95] at H ⊢; exact H)
                have hji95w : (IntKind.i64.wrap (x9_3 + 1)) = ji95 := (i64_w _).trans hji95
                by_cases c96 : 0 ≤ (ji95)
                ·rw [if_pos c96] at H
                 have c96b0 := eq_true c96
                 have c96b1 : decide (0 ≤ (ji95)) = true := decide_eq_true c96
                 clear c96
                 by_cases c97 : (ji95) ≤ (x7_2.length : Int)
                 ·rw [if_pos c97] at H
                  have c97b0 := eq_true c97
                  have c97b1 : decide ((ji95) ≤ (x7_2.length : Int)) = true := decide_eq_true c97
                  clear c97
                  obtain ⟨y233, hy233⟩ : ∃ y_ : List (S54), y_ = (x7_2.drop ((ji95) : Int).toNat) := ⟨_, rfl⟩
                  replace H : (impl_RunClock.l0 k3 a1 (x7_2.eraseIdx (x9_3 : Int).toNat) y208) = some (r1, r2, r3, r4) := by first | (rw [hy233]; with_reducible exact H) | (have H2_ := (Option.bind_some _ _).symm.trans H; rw [hy233]; with_reducible exact H2_) | (have H2_ := (Option.bind_some _ _).symm.trans H; with_reducible exact H2_) | with_reducible exact H | (rw [hy233]; exact H) | exact H
                  have Ny233 := Aside0.mk hy233
                  clear hy233
                  obtain ⟨y237, hy237⟩ : ∃ y_ : List (S54), y_ = (x7_2.eraseIdx (x9_3 : Int).toNat) := ⟨_, rfl⟩
                  replace H : (impl_RunClock.l0 k3 a1 y237 y208) = some (r1, r2, r3, r4) := by first | (rw [hy237]; with_reducible exact H) | (have H2_ := (Option.bind_some _ _).symm.trans H; rw [hy237]; with_reducible exact H2_) | (have H2_ := (Option.bind_some _ _).symm.trans H; with_reducible exact H2_) | with_reducible exact H | (rw [hy237]; exact H) | exact H
                  have Ny237 := Aside0.mk hy237
                  clear hy237
                  have H' := Aside0.mk H
                  clear H
                  have p205 : 0 ≤ (x9_3 : Int) := odt
                  have q205 : x9_3 < (x7_2.length : Int) := odt
                  obtain ⟨ad205, e205, hx205_0, hx205_1, hx205_2, hx205_3⟩ := at_T54 (Kd.R_reads' HO_7.out).2.2 x9_3 p205 q205
                  cases e205
                  replace p205 := eq_true p205
                  replace q205 := eq_true q205
                  try go_wp2
                  have n0_ := Aside0.mk (Kd.R_drew HO_7.out)
                  have n1_ := Aside0.mk (Kd.R_drew HO_8.out)
                  have n2_ := Aside0.mk (Kd.R_drew HO_28.out)
                  have n3_ := Aside0.mk (blk_drew BK192.out)
                  have n4_ := Aside0.mk (blk_drew BK193.out)
                  have n5_ := Aside0.mk (below_drew1 HB.out)
                  clear HO_7
                  clear HO_8
                  clear HO_28
                  clear BK192
                  clear BK193
                  clear HB
                  have HO_7 := n0_
                  have HO_8 := n1_
                  have HO_28 := n2_
                  have BK192 := n3_
                  have BK193 := n4_
                  have HB := n5_
                  clear n0_ n1_ n2_ n3_ n4_ n5_
                  have p206 : 0 ≤ (x9_3 : Int) := odt
                  have q206 : x9_3 < (x7_2.length : Int) := odt
                  obtain ⟨ad206, e206, hx206_0, hx206_1, hx206_2, hx206_3⟩ := at_T54 (Kd.R_reads' HO_7.out).2.2 x9_3 p206 q206
                  obtain rfl : ad205 = ad206 := (by injection e206)
                  replace p206 := eq_true p206
                  replace q206 := eq_true q206
                  have p207 : 0 ≤ (x9_3 : Int) := odt
                  have q207 : x9_3 < (x7_2.length : Int) := odt
                  obtain ⟨ad207, e207, hx207_0, hx207_1, hx207_2, hx207_3⟩ := at_T54 (Kd.R_reads' HO_7.out).2.2 x9_3 p207 q207
                  obtain rfl : ad205 = ad207 := (by injection e207)
                  replace p207 := eq_true p207
                  replace q207 := eq_true q207
                  refine start_ (n := 13) (S := fun w' => w'.cell? (ad205.add ((x9_3).toNat * 4)) = some (.int .i64 ((rd_T54 x7_2 x9_3).f0)) ∧ w'.cell? ⟨(ad205.add ((x9_3).toNat * 4)).block, (ad205.add ((x9_3).toNat * 4)).off + 1, none⟩ = some (.int .i64 ((rd_T54 x7_2 x9_3).f1)) ∧ w'.cell? ⟨(ad205.add ((x9_3).toNat * 4)).block, (ad205.add ((x9_3).toNat * 4)).off + 2, none⟩ = some (.int .i64 ((rd_T54 x7_2 x9_3).f2)) ∧ w'.cell? ⟨(ad205.add ((x9_3).toNat * 4)).block, (ad205.add ((x9_3).toNat * 4)).off + 3, none⟩ = some (.int .i64 ((rd_T54 x7_2 x9_3).f3)) ∧ w'.cell? (ad205.add ((x9_3).toNat * 4)) = some (.int .i64 ((rd_T54 x7_2 x9_3).f0)) ∧ w'.cell? ⟨(ad205.add ((x9_3).toNat * 4)).block, (ad205.add ((x9_3).toNat * 4)).off + 1, none⟩ = some (.int .i64 ((rd_T54 x7_2 x9_3).f1)) ∧ w'.cell? ⟨(ad205.add ((x9_3).toNat * 4)).block, (ad205.add ((x9_3).toNat * 4)).off + 2, none⟩ = some (.int .i64 ((rd_T54 x7_2 x9_3).f2)) ∧ w'.cell? ⟨(ad205.add ((x9_3).toNat * 4)).block, (ad205.add ((x9_3).toNat * 4)).off + 3, none⟩ = some (.int .i64 ((rd_T54 x7_2 x9_3).f3))) (ds := [10, 11]) #[false, false, false, false, false, false, false, false, false, false, false, false, false] (by kernel_rfl) rfl rfl ⟨hx206_0, hx206_1, hx206_2, hx206_3, hx207_0, hx207_1, hx207_2, hx207_3⟩ (fun hHeld => ?_); refine with_tabW impl_RunClock.tab14 impl_RunClock.bits14 (fun HT_ HW_ => ?_)
                  generalize wr.drew = w98 at HO_7 HO_8 HO_28 BK192 BK193 HB hx206_0 hx206_1 hx206_2 hx206_3 hx207_0 hx207_1 hx207_2 hx207_3 hHeld ⊢
                  refine pure_ (i := 0) (N := some 64) (v := ?_) (a' := ?_) #[true, false, false, false, false, false, false, false, false, false, false, false, false] rfl rfl (any_of HT_.out (by kernel_rfl)) (fun _ _ _ h => h) (Or.inl ⟨by rfl, ?_⟩) ?_ ?_
                  rotate_left; (· (intro w'; go_simp; with_reducible rfl)); rotate_left; (· (simp only [Act.put, sp1, sp2, sp3, i64_w, i32_w]; rfl))
                  refine pure_ (i := 1) (N := some 65) (v := ?_) (a' := ?_) #[true, true, false, false, false, false, false, false, false, false, false, false, false] rfl rfl (any_of HT_.out (by kernel_rfl)) (fun _ _ _ h => h) (Or.inl ⟨by rfl, ?_⟩) ?_ ?_
                  rotate_left; (· (intro w'; go_simp; with_reducible rfl)); rotate_left; (· (simp only [Act.put, sp1, sp2, sp3, i64_w, i32_w]; rfl))
                  refine pure_ (i := 2) (N := some 66) (v := ?_) (a' := ?_) #[true, true, true, false, false, false, false, false, false, false, false, false, false] rfl rfl (any_of HT_.out (by kernel_rfl)) (fun _ _ _ h => h) (Or.inl ⟨by rfl, ?_⟩) ?_ ?_
                  rotate_left; (· (intro w'; go_simp; with_reducible rfl)); rotate_left; (· (simp only [Act.put, sp1, sp2, sp3, i64_w, i32_w]; rfl))
                  refine pure_ (i := 3) (N := some 67) (v := ?_) (a' := ?_) #[true, true, true, true, false, false, false, false, false, false, false, false, false] rfl rfl (any_of HT_.out (by kernel_rfl)) (fun _ _ _ h => h) (Or.inl ⟨by rfl, ?_⟩) ?_ ?_
                  rotate_left; (· (intro w'; go_simp; with_reducible rfl)); rotate_left; (· (simp only [Act.put, sp1, sp2, sp3, i64_w, i32_w]; rfl))
                  refine pure_ (i := 5) (N := some 69) (v := ?_) (a' := ?_) #[true, true, true, true, false, true, false, false, false, false, false, false, false] rfl rfl (any_of HT_.out (by kernel_rfl)) (fun _ _ _ h => h) (Or.inl ⟨by rfl, ?_⟩) ?_ ?_
                  rotate_left; (· (intro w'; go_simp; with_reducible rfl)); rotate_left; (· (simp only [Act.put, sp1, sp2, sp3, i64_w, i32_w]; rfl))
                  refine pure_ (i := 6) (N := some 70) (v := ?_) (a' := ?_) #[true, true, true, true, false, true, true, false, false, false, false, false, false] rfl rfl (any_of HT_.out (by kernel_rfl)) (fun _ _ _ h => h) (Or.inl ⟨by rfl, ?_⟩) ?_ ?_
                  rotate_left; (· (intro w'; go_simp; with_reducible rfl)); rotate_left; (· (simp only [Act.put, sp1, sp2, sp3, i64_w, i32_w]; rfl))
                  refine pure_ (i := 7) (N := some 71) (v := ?_) (a' := ?_) #[true, true, true, true, false, true, true, true, false, false, false, false, false] rfl rfl (any_of HT_.out (by kernel_rfl)) (fun _ _ _ h => h) (Or.inl ⟨by rfl, ?_⟩) ?_ ?_
                  rotate_left; (· (intro w'; go_simp; with_reducible rfl)); rotate_left; (· (simp only [Act.put, sp1, sp2, sp3, i64_w, i32_w]; rfl))
                  refine take_ (i := 4) (N := some 68) (v := ?_) (a' := ?_) #[true, true, true, true, true, true, true, true, false, false, false, false, false] rfl rfl (take_ofW HT_.out HW_.out (by kernel_rfl)) (fun _ _ _ h => h) (Or.inl ⟨by rfl, ?_⟩) hHeld ?_ ?_
                  rotate_left; (· (rintro w' ⟨s0, s1, s2, s3, s4, s5, s6, s7⟩; go_simp; with_reducible rfl)); rotate_left; (· (simp only [Act.put, sp1, sp2, sp3, i64_w, i32_w]; rfl))
                  refine take_ (i := 8) (N := some 72) (v := ?_) (a' := ?_) #[true, true, true, true, true, true, true, true, true, false, false, false, false] rfl rfl (take_ofW HT_.out HW_.out (by kernel_rfl)) (fun _ _ _ h => h) (Or.inl ⟨by rfl, ?_⟩) hHeld ?_ ?_
                  rotate_left; (· (rintro w' ⟨s0, s1, s2, s3, s4, s5, s6, s7⟩; go_simp; with_reducible rfl)); rotate_left; (· (simp only [Act.put, sp1, sp2, sp3, i64_w, i32_w]; rfl))
                  refine pure_ (i := 9) (N := some 73) (v := ?_) (a' := ?_) #[true, true, true, true, true, true, true, true, true, true, false, false, false] rfl rfl (any_of HT_.out (by kernel_rfl)) (fun _ _ _ h => h) (Or.inl ⟨by rfl, ?_⟩) ?_ ?_
                  rotate_left; (· (intro w'; go_simp; with_reducible rfl)); rotate_left; (· (simp only [Act.put, sp1, sp2, sp3, i64_w, i32_w]; rfl))
                  refine last_ (i := 10) (N := some 74) #[true, true, true, true, true, true, true, true, true, true, true, false, false] rfl rfl (one_of HT_.out (by kernel_rfl)) (by decide) (fun K hK => ?_)
                  refine value_ (w1 := ?_) (v := ?_) (by rfl) rfl ?_ ?_
                  rotate_left 2
                  ·go_simp
                   constructor
                   ·rfl
                   ·rfl
                  refine hK.out _ _ ?_
                  clear hK K
                  refine norm_ (a' := ?_) ?_ ?_
                  rotate_left
                  ·show Act.put _ (some 74) _ = _
                   simp only [Act.put, sp1, sp2, sp3, i64_w, i32_w]
                   rfl
                  refine last_ (i := 11) (N := some 75) #[true, true, true, true, true, true, true, true, true, true, true, true, false] rfl rfl (one_of HT_.out (by kernel_rfl)) (by decide) (fun K hK => ?_)
                  refine Kd.R_append_step k56 (w0 := w) w.heap.size (by rfl) (.tmp 64) (.tmp 74) 32 56 (.agg #[(.int .i64 0), (.int .i64 0)]) 16 rfl Try.underlying32 info56 rfl (by decide) (by omega) u8 x8_2 (⟨(rd_T54 x7_2 x9_3).f1, (rd_T54 x7_2 x9_3).f0⟩ : S56) [.int .i64 ((rd_T54 x7_2 x9_3).f1), .int .i64 ((rd_T54 x7_2 x9_3).f0)] (fun _ => True) (fun _ => False) rfl rfl ?aP (fun _ hk => hk.elim) ?aF ?aO ?aB ?aS ?aL ?_
                  (case aP => exact k56_mkM _ _ _ (⟨(rd_T54 x7_2 x9_3).f1, (rd_T54 x7_2 x9_3).f0⟩ : S56))
                  (case aB => exact blw)
                  (case aF => exact (fun _ _ => trivial))
                  (case aO => exact (by (with_reducible repeat (first | apply Kd.R_alloc | apply Kd.R_drewN | apply Kd.R_drew)); exact HO_8.out))
                  (case aS => exact (below_size blw))
                  (case aL => have := LMc63.out; omega)
                  intro v209 w99 ho hb hg hat
                  rw [← Ny208.out] at ho
                  have n0_ := Aside0.mk (Kd.R_over' (by (with_reducible repeat (first | apply Kd.R_alloc | apply Kd.R_drewN | apply Kd.R_drew)); exact HO_7.out) (Kd.R_typed (by (with_reducible repeat (first | apply Kd.R_alloc | apply Kd.R_drewN | apply Kd.R_drew)); exact HO_8.out)) (by decide) hg)
                  have n1_ := Aside0.mk (Kd.R_over' (by (with_reducible repeat (first | apply Kd.R_alloc | apply Kd.R_drewN | apply Kd.R_drew)); exact HO_28.out) (Kd.R_typed (by (with_reducible repeat (first | apply Kd.R_alloc | apply Kd.R_drewN | apply Kd.R_drew)); exact HO_8.out)) (by decide) hg)
                  have n2_ := Aside0.mk (blk_grown (g := gb192) (o := .cells #[.int .i64 a0_0, .slice A0_1 l0_1.length c0_1] 31 (0, 0)) bkw hg (Kd.R_ne HO_8.out BK192.out (by decide)))
                  have n3_ := Aside0.mk (blk_grown (g := gb193) (o := .cells #[.int .i64 x194000_2, .slice none 0 0] 31 (0, 0)) bkw hg (Kd.R_ne HO_8.out BK193.out (by decide)))
                  have n4_ := Aside0.mk (hb)
                  have n5_ := Aside0.mk (ho)
                  clear HO_7
                  clear HO_28
                  clear BK192
                  clear BK193
                  clear HB
                  clear HO_8
                  have HO_7 := n0_
                  have HO_28 := n1_
                  have BK192 := n2_
                  have BK193 := n3_
                  have HB := n4_
                  have HO210 := n5_
                  clear n0_ n1_ n2_ n3_ n4_ n5_
                  clear ho hb hg hat
                  refine hK.out _ _ ?_
                  clear hK K
                  refine norm_ (a' := ?_) ?_ ?_
                  rotate_left
                  ·show Act.put _ (some 75) _ = _
                   simp only [Act.put, sp1, sp2, sp3, i64_w, i32_w]
                   rfl
                  refine pure_ (i := 12) (N := some 8) (v := ?_) (a' := ?_) #[true, true, true, true, true, true, true, true, true, true, true, true, true] rfl rfl (any_of HT_.out (by kernel_rfl)) (fun _ _ _ h => h) (Or.inl ⟨by rfl, ?_⟩) ?_ ?_
                  rotate_left; (· (intro w'; go_simp; with_reducible rfl)); rotate_left; (· (simp only [Act.put, sp1, sp2, sp3, i64_w, i32_w]; rfl))
                  refine done_ (done_of HT_.out (by kernel_rfl)) ?_
                  obtain ⟨Ao100, co100, eo100⟩ := Kd.R_slice HO210.out
                  subst eo100
                  have p211 : 0 ≤ (x9_3 : Int) := odt
                  have q211 : x9_3 < (x7_2.length : Int) := odt
                  obtain ⟨ad211, e211, hx211_0, hx211_1, hx211_2, hx211_3⟩ := at_T54 (Kd.R_reads' HO_7.out).2.2 x9_3 p211 q211
                  obtain rfl : ad205 = ad211 := (by injection e211)
                  replace p211 := eq_true p211
                  replace q211 := eq_true q211
                  have q101 : (x9_3 : Int) ≤ ((x7_2.length : Int) : Int) := odt
                  obtain ⟨i0101, hi0101, _, hsz101, _⟩ := info_parts info54
                  have hroom101 : x7_2.length ≤ co25 := (Kd.R_reads' HO_7.out).2.1
                  have hC101 : Kd.C k54 _ (some ad205) x7_2.length x7_2 := (Kd.R_reads' HO_7.out).2.2
                  have hcut101 := cut_to (P := Try.prog) 29 54 .i64 Try.underlying29 hi0101 (some ad205) x7_2.length co25 x9_3 odt q101 hroom101
                  have hr101 := Kd.C_take (m := (x9_3 : Int).toNat) hC101 (by omega)
                  have hy101 : y229.length = (x9_3 : Int).toNat := (by rw [Ny229.out, List.length_take]; omega)
                  rw [← Ny229.out] at hr101
                  rw [← hy101] at hcut101
                  have HR232 := Aside0.mk hr101
                  have HC232 := Aside0.mk (show y229.length ≤ co25 from by omega)
                  clear hr101 hC101 hroom101 hi0101 hsz101
                  have KY101 := Aside0.mk hy101
                  clear hy101
                  have KL101 := Aside0.mk (show (x9_3 : Int).toNat ≤ x7_2.length from by omega)
                  replace q101 := eq_true q101
                  have q102 : ((ji95) : Int) ≤ ((x7_2.length : Int) : Int) := odt
                  obtain ⟨i0102, hi0102, _, hsz102, _⟩ := info_parts info54
                  have hroom102 : x7_2.length ≤ co25 := (Kd.R_reads' HO_7.out).2.1
                  have hC102 : Kd.C k54 _ (some ad205) x7_2.length x7_2 := (Kd.R_reads' HO_7.out).2.2
                  have q0102 : (0 : Int) ≤ ((ji95) : Int) := odt
                  have hcut102 := cut_from (P := Try.prog) 29 54 .i64 Try.underlying29 hi0102 4 hsz102 (some ad205) x7_2.length co25 (ji95) q0102 q102
                  have hr102 := Kd.C_drop (m := ((ji95) : Int).toNat) (c := co25) hC102 (by omega) hroom102
                  obtain ⟨A102, hA102⟩ : ∃ A1, A1 = (if co25 = ((ji95) : Int).toNat then (some ad205) else ((some ad205) : Option Addr).map (·.add (((ji95) : Int).toNat * 4))) := ⟨_, rfl⟩
                  obtain ⟨c102, hc102⟩ : ∃ c1, c1 = co25 - ((ji95) : Int).toNat := ⟨_, rfl⟩
                  have hy102 : y233.length = x7_2.length - ((ji95) : Int).toNat := (by rw [Ny233.out, List.length_drop] <;> omega)
                  rw [show (x7_2).drop ((ji95) : Int).toNat = y233 from Ny233.out.symm] at hr102
                  replace hr102 : Kd.C k54 _ A102 y233.length y233 := (by rw [hA102]; exact hr102)
                  rw [← hy102, ← hA102, ← hc102] at hcut102
                  have HR236 := Aside0.mk hr102
                  have HC236 := Aside0.mk (show y233.length ≤ c102 from by rw [hy102, hc102]; exact Nat.sub_le_sub_right hroom102 _)
                  clear hr102 hC102 hroom102 hi0102 hsz102 hc102
                  have KY102 := Aside0.mk hy102
                  have KA102 := Aside0.mk hA102
                  clear hy102 hA102
                  have KL102 := Aside0.mk (show ((ji95) : Int).toNat ≤ x7_2.length from by omega)
                  replace q102 := eq_true q102
                  go_wp2_with fail
                  have hj_ : 0 ≤ (x9_3 : Int) := odt
                  have hl_ : (ji95 : Int) ≤ (x7_2.length : Int) := odt
                  have hh_ : (x9_3 : Int) ≤ (x7_2.length : Int) := odt
                  have hb_ := (Kd.R_reads' HO_7.out).2.2.2.1
                  have h0_ : (0 : Int) ≤ (ji95 : Int) := odt
                  have hw_ : (ji95 : Int) = x9_3 + 1 := (by have h00_ := h0_; rw [← hji95] at h00_ ⊢; unfold wrap64 at h00_ ⊢; omega)
                  obtain ⟨gd104, cap_, ev_, _⟩ := Kd.R_form HO_7.out (by omega)
                  injection ev_ with ea_ _ ec_
                  subst ec_
                  (first | subst ea_ | (injection ea_ with ea_; subst ea_))
                  refine (impl_RunClock.del (w0 := w) (base := w.heap.size) (g := gd104) (c := co25) hj_ (by omega) hw_ (by (with_reducible repeat (first | apply Kd.R_alloc | apply Kd.R_drewN | apply Kd.R_drew)); exact HO_7.out) blw (below_size blw)).mono ?_
                  rintro e w103 ⟨rfl, ho, hb, hg⟩
                  clear hj_ hl_ hh_ hb_ hw_ h0_
                  rw [← Ny237.out] at ho
                  have hn_ : x7_2.length - 1 = y237.length := (by have := (Kd.R_reads' ho).1; omega)
                  rw [hn_] at ho ⊢
                  clear hn_
                  have n0_ := Aside0.mk (ho)
                  have n1_ := Aside0.mk (HO_28.out)
                  have n2_ := Aside0.mk (blk_grown (g := gb192) (o := .cells #[.int .i64 a0_0, .slice A0_1 l0_1.length c0_1] 31 (0, 0)) (blk_drew bkw) hg (Kd.R_ne HO_7.out BK192.out (by decide)))
                  have n3_ := Aside0.mk (blk_grown (g := gb193) (o := .cells #[.int .i64 x194000_2, .slice none 0 0] 31 (0, 0)) (blk_drew bkw) hg (Kd.R_ne HO_7.out BK193.out (by decide)))
                  have n4_ := Aside0.mk (Kd.R_over' (v := (.slice (some ⟨gd104, 0, none⟩) x7_2.length co25)) (Kd.R_drew (by (with_reducible repeat (first | apply Kd.R_alloc | apply Kd.R_drewN | apply Kd.R_drew)); exact HO210.out)) (Kd.R_typed (Kd.R_drew HO_7.out)) (by decide) hg)
                  have n5_ := Aside0.mk (hb)
                  clear HO_7
                  clear HO_28
                  clear BK192
                  clear BK193
                  clear HO210
                  clear HB
                  have HO_7 := n0_
                  have HO_28 := n1_
                  have BK192 := n2_
                  have BK193 := n3_
                  have HO210 := n4_
                  have HB := n5_
                  clear n0_ n1_ n2_ n3_ n4_ n5_
                  clear ho hb hg
                  go_wp2
                  go_roundg k3
                  case measure => have := HJ2.out; have := HK2.out; have := HK3.out; omega
                  case rel => exact ⟨(y237), (y208), (x194000_2), H', ⟨by have := HJ2.out; have := HK2.out; have := HK3.out; omega⟩, ⟨by (with_reducible repeat (first | apply Kd.R_alloc | apply Kd.R_drewN | apply Kd.R_drew)); exact HO_7.out⟩, ⟨by (with_reducible repeat (first | apply Kd.R_alloc | apply Kd.R_drewN | apply Kd.R_drew)); exact HO210.out⟩, ⟨by (with_reducible repeat (first | refine blk_drewN ?_ _ | refine blk_drew ?_ | refine blk_alloc ?_ _)); exact BK192.out⟩, ⟨by (with_reducible repeat (first | refine blk_drewN ?_ _ | refine blk_drew ?_ | refine blk_alloc ?_ _)); exact BK193.out⟩, ⟨blw⟩⟩
                 ·rw [if_neg c97] at H
                  exact absurd H (by simp)
                ·rw [if_neg c96] at H
                 exact absurd H (by simp)
               ·rw [if_neg c94] at H
                exact absurd H (by simp)
            ·rw [if_neg c63] at H
             exact absurd H (by simp)
           ·rw [if_neg c62] at H
            exact absurd H (by simp)
          ·rw [if_neg c61] at H
           exact absurd H (by simp)

end Go.Proofs.Ytcdchmdkcdlklaa.PFnExactRunClock
