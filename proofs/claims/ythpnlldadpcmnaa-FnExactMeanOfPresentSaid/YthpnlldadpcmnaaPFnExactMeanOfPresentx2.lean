/- The machine's side of a law, function by function: a Lean function with the Go function's answers and the proof that the Go code comes to them. No condition. Written by this session's program over the kit's print, this session's own contracts set in. -/
import Derived.Test.YthpnlldadpcmnaaPFnExactMeanOfPresentx0
import Derived.Test.YthpnlldadpcmnaaPFnExactMeanOfPresentx1
namespace Go.Proofs.Ythpnlldadpcmnaa.PFnExactMeanOfPresent
open Go.RowKit Go.Proofs.YthpnlldadpcmnaaW.PrintWords Go.Proofs.YthpnlldadpcmnaaW.PrintLast Go.Proofs.YthpnlldadpcmnaaW.PrintMore
attribute [local go_sem] max2_int min2_int max_two min_two max_three min_three max_four min_four   -- for this text's walks alone
set_option linter.unusedVariables false
set_option linter.unusedSimpArgs false


/-! ### slices_DeleteFunc_float64_float64: function 24 -/
/-- What is no NaN. -/
def slices_DeleteFunc_float64_float64.keep (x : Nat) : Bool := !(math_IsNaN.g x)
def slices_DeleteFunc_float64_float64.f (l0 : List Nat) : Option (List Nat) := some (l0.filter slices_DeleteFunc_float64_float64.keep)
set_option maxHeartbeats 8000000 in
set_option maxRecDepth 100000 in
theorem slices_DeleteFunc_float64_float64.index (A0 : Option Addr) (c0 : Nat) (l0 : List Nat) (w : World) (hr0 : Kd.C (Kd.scalar (Value.float .f64) (fun _ => rfl)) w A0 l0.length l0) (hc0 : l0.length ≤ c0) :
    Calls Try.prog 34 #[.slice A0 l0.length c0, .func (.func 20) #[] #[]] w fun e w' => e = .returned (.int .i64 (idxO math_IsNaN.g l0)) ∧ Below w.heap.size w w' := by
  have hn : l0.length ≤ 9223372036854775807 := hr0.2.1
  have eg := Go.Proofs.enters_of Try.func20 (by kernel_rfl) rfl
  have HR0 := Aside0.mk hr0
  clear hr0
  go_enter Try.func34, Try.ntmps34
  go_wp2
  go_loopg [5, 8] l0.length (fun gg _ s8 wr => ∃ kk : Nat, kk ≤ l0.length ∧ l0.length - kk ≤ gg ∧ s8 = .int .i64 (kk : Int) ∧ Aside0 (Below w.heap.size w wr) ∧ Aside0 (∀ j (hj : j < l0.length), j < kk → math_IsNaN.g (l0[j]'hj) = false))
  case atStart => exact ⟨0, Nat.zero_le _, by omega, rfl, ⟨Below.refl _ w⟩, ⟨fun j hj h => absurd h (Nat.not_lt_zero _)⟩⟩
  case round =>
    obtain ⟨kk, hkk, hg, rfl, HB, HN⟩ := hrel
    by_cases hlt : kk < l0.length
    · have hltz : (kk : Int) < (l0.length : Int) := by omega
      have p1 : 0 ≤ (kk : Int) := by omega
      obtain ⟨ad1, e1, hx0⟩ := at_f64 HR0.out (kk : Int) p1 hltz
      have hy : rdOf (0 : Nat) l0 (kk : Int) = l0[kk]'hlt := by simp [rdOf, hlt]
      cases e1
      rw [hy] at hx0; clear hy
      replace hx0 := (HB.out.cell (World.block_lt_of_cell? w _ hx0)).trans hx0
      simp only [Int.toNat_natCast] at hx0
      generalize hy : l0[kk]'hlt = y at hx0
      have HE := Aside0.mk hy; clear hy
      replace p1 := eq_true p1
      by_cases hq : math_IsNaN.g y = true
      · have HQ1 := Aside0.mk hq; clear hq
        go_wp2_with fail
        refine (math_IsNaN.run y true _ HQ1.out).mono ?_
        rintro e w' ⟨rfl, ⟨nd, rfl⟩⟩
        go_wp2
        go_ret
        refine ⟨?_, by repeat (first | (with_reducible first | exact HB.out | apply below_alloc | apply pw_below_drewN | apply below_drew1) | exact HB.out)⟩
        rw [idxO_hit hlt (by rw [HE.out]; exact HQ1.out) (fun j hj => HN.out j (by omega) hj)]
        rfl
      · have HQ1 := Aside0.mk (Bool.eq_false_iff.mpr hq); clear hq
        go_wp2_with fail
        refine (math_IsNaN.run y false _ HQ1.out).mono ?_
        rintro e w' ⟨rfl, ⟨nd, rfl⟩⟩
        go_wp2
        go_roundg (l0.length - (kk + 1))
        case measure => omega
        case rel =>
          refine ⟨kk + 1, by omega, by omega, by go_num, ⟨by repeat (first | (with_reducible first | exact HB.out | apply below_alloc | apply pw_below_drewN | apply below_drew1) | exact HB.out)⟩, ⟨fun j hj h => ?_⟩⟩
          by_cases e : j = kk
          · subst e; rw [HE.out]; exact HQ1.out
          · exact HN.out j hj (by omega)
    · have hltz : ¬ (kk : Int) < (l0.length : Int) := by omega
      have hke : kk = l0.length := by omega
      have HM := Aside0.mk (idxO_miss (p := math_IsNaN.g) (fun j hj => HN.out j hj (by omega)))
      clear hke HN
      go_wp2
      go_ret
      exact ⟨by rw [HM.out]; rfl, HB.out⟩
/-- What the row holds at place j: the kept ones of what is gone through, at its head; what is to come, where it was. -/
structure slices_DeleteFunc_float64_float64.Inv (l : List Nat) (cap j i : Nat) (cu : List Value) : Prop where
  len : cu.length = cap
  le : i ≤ j
  low : cu.take i = ((l.take j).filter slices_DeleteFunc_float64_float64.keep).map (Value.float .f64)
  high : ∀ q, j ≤ q → ∀ hq : q < l.length, cu[q]? = some (.float .f64 l[q])
theorem slices_DeleteFunc_float64_float64.Inv.skip {l : List Nat} {cap j i : Nat} {cu : List Value} (h : slices_DeleteFunc_float64_float64.Inv l cap j i cu) (hj : j < l.length) (hk : slices_DeleteFunc_float64_float64.keep l[j] = false) : slices_DeleteFunc_float64_float64.Inv l cap (j + 1) i cu := by
  refine ⟨h.len, Nat.le_succ_of_le h.le, ?_, fun q hq hl => h.high q (by omega) hl⟩
  rw [List.take_succ_eq_append_getElem hj, List.filter_append, h.low]
  simp [hk]
theorem slices_DeleteFunc_float64_float64.Inv.put {l : List Nat} {cap j i : Nat} {cu : List Value} (h : slices_DeleteFunc_float64_float64.Inv l cap j i cu) (hj : j < l.length) (hc : l.length ≤ cap) (hk : slices_DeleteFunc_float64_float64.keep l[j] = true) : slices_DeleteFunc_float64_float64.Inv l cap (j + 1) (i + 1) (cu.set i (.float .f64 l[j])) := by
  have hi : i < cu.length := by have := h.len; have := h.le; omega
  have hle := h.le
  refine ⟨by rw [List.length_set]; exact h.len, by omega, ?_, fun q hq hl => ?_⟩
  · rw [List.take_succ_eq_append_getElem hj, List.filter_append, List.map_append, ← h.low, List.take_succ_eq_append_getElem (by rw [List.length_set]; exact hi), List.getElem_set_self, List.take_set_of_le (Nat.le_refl _)]
    simp [hk]
  · rw [List.getElem?_set_ne (by omega)]
    exact h.high q (by omega) hl
theorem slices_DeleteFunc_float64_float64.cells {g t : Nat} {a : World} (hBg : a.heap.size ≤ g) : ∀ (vs : List Value) (o : Nat) (w : World) (cu : List Value), w.heap[g]? = some (.cells cu.toArray t (0, 0)) → Below a.heap.size a w →
    ∃ cu' : List Value, (w.setCells g o vs).heap[g]? = some (.cells cu'.toArray t (0, 0)) ∧ cu'.length = cu.length ∧ cu'.take o = cu.take o ∧ Below a.heap.size a (w.setCells g o vs)
  | [], o, w, cu, h, hb => ⟨cu, h, rfl, rfl, hb⟩
  | v :: vs, o, w, cu, h, hb => by
    obtain ⟨cu', h1, h2, h3, h4⟩ := slices_DeleteFunc_float64_float64.cells hBg vs (o + 1) (w.setCell ⟨g, o, none⟩ v) (cu.set o v) (blk_put h o v (by simp)) (below_set hb hBg)
    refine ⟨cu', h1, by rw [h2, List.length_set], ?_, h4⟩
    have h5 : (cu'.take (o + 1)).take o = ((cu.set o v).take (o + 1)).take o := by rw [h3]
    rw [List.take_take, List.take_take, Nat.min_eq_left (Nat.le_succ o), List.take_set_of_le (Nat.le_refl _)] at h5
    exact h5
theorem slices_DeleteFunc_float64_float64.start {l : List Nat} {cap k : Nat} {cu : List Value} (hlen : cu.length = cap) (ht : cu.take l.length = l.map (Value.float .f64)) (hk : k < l.length) (h1 : math_IsNaN.g l[k] = true) (h0 : ∀ j (hj : j < k), math_IsNaN.g (l[j]'(by omega)) = false) :
    slices_DeleteFunc_float64_float64.Inv l cap (k + 1) k cu := by
  have hall : (l.take k).filter slices_DeleteFunc_float64_float64.keep = l.take k := by
    rw [List.filter_eq_self]
    intro x hx
    obtain ⟨j, hj, rfl⟩ := List.getElem_of_mem hx
    rw [List.length_take] at hj
    rw [List.getElem_take]
    unfold slices_DeleteFunc_float64_float64.keep
    rw [h0 j (by omega)]; rfl
  refine ⟨hlen, Nat.le_succ k, ?_, fun q hq hl => ?_⟩
  · rw [List.take_succ_eq_append_getElem hk, List.filter_append, hall]
    have h2 : (cu.take l.length).take k = (l.map (Value.float .f64)).take k := by rw [ht]
    rw [List.take_take, Nat.min_eq_left (Nat.le_of_lt hk)] at h2
    rw [h2, List.map_append, List.map_take]
    unfold slices_DeleteFunc_float64_float64.keep
    simp [h1]
  · have h2 : (cu.take l.length)[q]? = (l.map (Value.float .f64))[q]? := by rw [ht]
    rw [List.getElem?_take_of_lt hl, List.getElem?_map, List.getElem?_eq_getElem hl] at h2
    exact h2
set_option maxHeartbeats 8000000 in
set_option maxRecDepth 100000 in
theorem slices_DeleteFunc_float64_float64.del (g cap k : Nat) (l : List Nat) (w0 w : World) (cu : List Value) (hh : w.heap[g]? = some (.cells cu.toArray 22 (0, 0))) (hlen : cu.length = cap) (hcap : l.length ≤ cap) (hcm : cap ≤ 9223372036854775807)
    (ht : cu.take l.length = l.map (Value.float .f64)) (hB : Below w0.heap.size w0 w) (hbg : w0.heap.size ≤ g) (hk : k < l.length) (h1 : math_IsNaN.g l[k] = true) (h0 : ∀ j (hj : j < k), math_IsNaN.g (l[j]'(by omega)) = false) :
    Calls Try.prog 24 #[.slice (some ⟨g, 0, none⟩) l.length cap, .func (.func 20) #[] #[]] w fun e w' => ∃ cu' : List Value, e = .returned (.slice (some ⟨g, 0, none⟩) (l.filter slices_DeleteFunc_float64_float64.keep).length cap) ∧ w'.heap[g]? = some (.cells cu'.toArray 22 (0, 0)) ∧ cu'.length = cap ∧ cu'.take (l.filter slices_DeleteFunc_float64_float64.keep).length = (l.filter slices_DeleteFunc_float64_float64.keep).map (Value.float .f64) ∧ Below w0.heap.size w0 w' := by
  have HH := Aside0.mk hh
  have HB := Aside0.mk hB
  have HG := Aside0.mk hbg
  have HS := Aside0.mk (slices_DeleteFunc_float64_float64.start hlen ht hk h1 h0)
  have hC : Kd.C (Kd.scalar (Value.float .f64) (fun _ => rfl)) w (some ⟨g, 0, none⟩) l.length l := by
    refine Kd.C_of_reads (d := (0 : Nat)) ⟨rfl, by omega, fun _ => ⟨_, rfl, fun j hj => ?_⟩⟩
    rw [show (Addr.add ⟨g, 0, none⟩ j) = ⟨g, j, none⟩ from (by unfold Addr.add; split <;> simp_all), blk_cell hh]
    have h2 : (cu.take l.length)[j]? = (l.map (Value.float .f64))[j]? := by rw [ht]
    rw [List.getElem?_take_of_lt hj, List.getElem?_map, List.getElem?_eq_getElem hj] at h2
    rw [List.getElem?_toArray, h2]
    simp [hj]
  have HI := Aside0.mk (show Calls Try.prog 34 #[.slice (some ⟨g, 0, none⟩) l.length cap, .func (.func 20) #[] #[]] w fun e w' => e = .returned (.int .i64 (k : Int)) ∧ Below w.heap.size w w' from by
    have h := slices_DeleteFunc_float64_float64.index (some ⟨g, 0, none⟩) cap l w hC hcap
    rwa [idxO_hit hk h1 h0] at h)
  have hkn : ((k : Int) == -1) = false := beq_eq_false_iff_ne.2 (by omega)
  have hkd : decide ((k : Int) = -1) = false := decide_eq_false (by omega)
  have hlm : l.length ≤ 9223372036854775807 := by omega
  have HL := Aside0.mk hlen
  have eg := Go.Proofs.enters_of Try.func20 (by kernel_rfl) rfl
  have hsf_ : ∀ (w_ : World) (a_ : Addr) (x_ : Nat), Sem.run Try.prog (store a_ (.float .f64 x_)) w_ = stored Try.prog w_ a_ (.float .f64 x_) .plain := fun w_ a_ x_ => run_store Try.prog w_ a_ _ .plain rfl
  clear hh hB hbg hlen ht h1 h0 hC
  go_enter Try.func24, Try.ntmps24
  go_wp2_with (go_at_call 34; refine HI.out.mono ?_; rintro e w1 ⟨rfl, hb1⟩; have HH1 := Aside0.mk (blk_below HH.out hb1); have HB1 := Aside0.mk (below_step HB.out hb1); clear hb1)
  have HS2 := Aside0.mk HS.out
  go_loopg [5, 6, 7] l.length (fun gg s5 s6 _ wr => ∃ (i j : Nat) (cu' : List Value), s5 = .int .i64 (i : Int) ∧ s6 = .int .i64 (j : Int) ∧ i < j ∧ j ≤ l.length ∧ l.length - j ≤ gg ∧ Aside0 (slices_DeleteFunc_float64_float64.Inv l cap j i cu') ∧ Aside0 (wr.heap[g]? = some (.cells cu'.toArray 22 (0, 0))) ∧ Aside0 (Below w0.heap.size w0 wr))
  case atStart => exact ⟨k, k + 1, cu, rfl, by go_num, by omega, by omega, by omega, HS2, HH1, HB1⟩
  case round =>
    obtain ⟨i, j, cu', rfl, rfl, hij, hjn, hgg, HV, HW, HX⟩ := hrel
    by_cases hlt : j < l.length
    · have hltz : (j : Int) < (l.length : Int) := by omega
      have p1 : 0 ≤ (j : Int) := by omega
      have p2 : 0 ≤ (i : Int) := by omega
      have p3 : (i : Int) < (l.length : Int) := by omega
      have hcj : wr.cell? ⟨g, j, none⟩ = some (.float .f64 l[j]) := by rw [blk_cell HW.out, List.getElem?_toArray]; exact HV.out.high j (Nat.le_refl _) hlt
      obtain ⟨old, hci⟩ : ∃ old, wr.cell? ⟨g, i, none⟩ = some old := by
        rw [blk_cell HW.out, List.getElem?_toArray]
        exact ⟨_, List.getElem?_eq_getElem (show i < cu'.length by have := HV.out.len; omega)⟩
      have hfi := blk_frozen HW.out i
      generalize hy : l[j]'hlt = y at hcj
      have HE := Aside0.mk hy; clear hy
      by_cases hq : math_IsNaN.g y = true
      · have HQ1 := Aside0.mk hq; clear hq
        go_wp2_with fail
        refine (math_IsNaN.run y true _ HQ1.out).mono ?_
        rintro e w2 ⟨rfl, ⟨nd, rfl⟩⟩
        have HV2 := Aside0.mk (HV.out.skip hlt (by unfold slices_DeleteFunc_float64_float64.keep; rw [HE.out, HQ1.out]; rfl))
        have HW2 := Aside0.mk (show (wr.drewN nd).heap[g]? = _ from HW.out)
        have HX2 := Aside0.mk (pw_below_drewN HX.out nd)
        clear HV HW HX hcj hci hfi
        go_wp2
        go_roundg (l.length - (j + 1))
        case measure => omega
        case rel => exact ⟨i, j + 1, cu', rfl, by go_num, by omega, by omega, by omega, HV2, HW2, HX2⟩
      · have HQ1 := Aside0.mk (Bool.eq_false_iff.mpr hq); clear hq
        have HV2 := Aside0.mk (HV.out.put hlt hcap (by unfold slices_DeleteFunc_float64_float64.keep; rw [HE.out, HQ1.out]; rfl))
        go_wp2_with fail
        refine (math_IsNaN.run y false _ HQ1.out).mono ?_
        rintro e w2 ⟨rfl, ⟨nd, rfl⟩⟩
        have HW2 := Aside0.mk (blk_put (w := wr.drewN nd) (cs := cu'.toArray) (cs' := (cu'.set i (.float .f64 y)).toArray) HW.out i (.float .f64 y) (by simp))
        have HX2 := Aside0.mk (below_set (g := g) (j := i) (v := .float .f64 y) (pw_below_drewN HX.out nd) HG.out)
        clear HV HW HX
        go_wp2
        generalize (wr.drewN nd).setCell ⟨g, i, none⟩ (.float .f64 y) = wz at HW2 HX2 ⊢
        go_roundg (l.length - (j + 1))
        case measure => omega
        case rel => exact ⟨i + 1, j + 1, cu'.set i (.float .f64 y), by go_num, by go_num, by omega, by omega, by omega, HE.out ▸ HV2, HW2, HX2⟩
    · obtain rfl : j = l.length := by omega
      have hltz : ¬ (l.length : Int) < (l.length : Int) := by omega
      have hne : ¬ cap = i := by omega
      have p2 : 0 ≤ (i : Int) := by omega
      have p3 : (i : Int) ≤ (l.length : Int) := by omega
      have p4 : (i : Int) ≤ (cap : Int) := by omega
      have hv : ∀ w_ : World, (zeroValue 22).run Try.prog w_ = .ok (.float .f64 0) w_ := fun w_ => by kernel_rfl
      have hcl : ∀ ty, (Builtin.clear_ #[31] ty #[.slice (some ⟨g, i, none⟩) (l.length - i) (cap - i)]).run Try.prog wr = .ok (.tuple #[]) (wr.setCells g i (List.replicate (l.length - i) (.float .f64 0))) := fun ty => Lib.run_clear_slice wr 31 22 ty (.float .f64 0) Try.underlying31 hv rfl rfl g i _ _ (by omega) (fun t ht => by rw [blk_cell HW.out, List.getElem?_toArray, List.getElem?_eq_getElem (show i + t < cu'.length by have := HV.out.len; omega)]; rfl) (fun t ht => blk_frozen HW.out _)
      obtain ⟨c2, hc1, hc2, hc3, hc4⟩ := slices_DeleteFunc_float64_float64.cells HG.out (List.replicate (l.length - i) (.float .f64 0)) i wr cu' HW.out HX.out
      have HC1 := Aside0.mk hc1
      have HC2 := Aside0.mk hc2
      have HC3 := Aside0.mk hc3
      have HC4 := Aside0.mk hc4
      clear hc1 hc2 hc3 hc4 HW HX
      go_wp2
      go_ret
      have hi : i = (l.filter slices_DeleteFunc_float64_float64.keep).length := by
        have h2 := congrArg List.length HV.out.low
        rw [List.length_take, List.length_map, List.take_length, HV.out.len] at h2
        omega
      refine ⟨by rw [← hi]; rfl, c2, HC1.out, by rw [HC2.out]; exact HV.out.len, ?_, HC4.out⟩
      rw [← hi, HC3.out, HV.out.low, List.take_length]
set_option maxHeartbeats 8000000 in
set_option maxRecDepth 100000 in
theorem slices_DeleteFunc_float64_float64.none_ (A : Option Addr) (c : Nat) (l : List Nat) (w : World) (hr : Kd.C (Kd.scalar (Value.float .f64) (fun _ => rfl)) w A l.length l) (hc : l.length ≤ c) (h : ∀ j (hj : j < l.length), math_IsNaN.g (l[j]'hj) = false) :
    Calls Try.prog 24 #[.slice A l.length c, .func (.func 20) #[] #[]] w fun e w' => e = .returned (.slice A l.length c) ∧ Below w.heap.size w w' := by
  have HI := Aside0.mk (show Calls Try.prog 34 #[.slice A l.length c, .func (.func 20) #[] #[]] w fun e w' => e = .returned (.int .i64 (-1)) ∧ Below w.heap.size w w' from by
    have h2 := slices_DeleteFunc_float64_float64.index A c l w hr hc
    rwa [idxO_miss h] at h2)
  clear hr h
  go_enter Try.func24, Try.ntmps24
  go_wp2_with (go_at_call 34; refine HI.out.mono ?_; rintro e w1 ⟨rfl, hb1⟩; have HB1 := Aside0.mk hb1; clear hb1)
  go_ret
  exact ⟨rfl, HB1.out⟩
theorem slices_DeleteFunc_float64_float64.own {w : World} {base g cap : Nat} {xs : List Nat} {cu : List Value} (hg : base ≤ g) (hh : w.heap[g]? = some (.cells cu.toArray 22 (0, 0))) (hl : cu.length = cap) (hm : cap ≤ maxLen) (hx : xs.length ≤ cap) (ht : cu.take xs.length = xs.map (Value.float .f64)) :
    Kd.R (Kd.scalar (Value.float .f64) (fun _ => rfl)) 22 w base (fun _ => True) (.slice (some ⟨g, 0, none⟩) xs.length cap) xs := by
  refine Kd.R_of_own (enc := Value.float .f64) (h1 := fun _ => rfl) ⟨?_, .inr ⟨g, cap, _, rfl, hg, hh, hx, hm, by simp [hl], ?_⟩⟩ (fun _ _ => trivial)
  · rw [encs_length, Nat.mul_one]
  · rw [Nat.mul_one]; exact ht
theorem slices_DeleteFunc_float64_float64.real {ok : Nat → Prop} (v : Value) (l : List Nat) (w0 w : World) (hB : Below w0.heap.size w0 w) (ho : Kd.R (Kd.scalar (Value.float .f64) (fun _ => rfl)) 22 w w0.heap.size ok v l) :
    Calls Try.prog 24 #[v, .func (.func 20) #[] #[]] w fun e w' => ∃ v' : Value, e = .returned v' ∧ Kd.R (Kd.scalar (Value.float .f64) (fun _ => rfl)) 22 w' w0.heap.size (fun _ => True) v' (l.filter slices_DeleteFunc_float64_float64.keep) ∧ Below w0.heap.size w0 w' := by
  by_cases ha : ∃ j, ∃ hj : j < l.length, math_IsNaN.g (l[j]'hj) = true
  · obtain ⟨k, hk, h1, h0⟩ : ∃ k, ∃ hk : k < l.length, math_IsNaN.g l[k] = true ∧ ∀ j (hj : j < k), math_IsNaN.g (l[j]'(by omega)) = false := by
      refine ⟨l.findIdx math_IsNaN.g, ?_, ?_, ?_⟩
      · obtain ⟨j, hj, h⟩ := ha
        exact List.findIdx_lt_length.2 ⟨l[j], List.getElem_mem hj, h⟩
      · exact List.findIdx_getElem
      · intro j hj
        exact List.not_of_lt_findIdx hj
    have hw := Kd.own_of_R ho
    obtain ⟨_, ⟨_, hz⟩ | ⟨g, cap, cur, rfl, hbg, hh, hn, hm, hs, ht⟩⟩ := hw
    · omega
    · rw [Nat.mul_one] at hs ht
      refine (slices_DeleteFunc_float64_float64.del g cap k l w0 w cur.toList (by simpa using hh) (by rw [Array.length_toList]; exact hs) hn hm ht hB hbg hk h1 h0).mono ?_
      rintro e w' ⟨cu', rfl, hh', hl', ht', hB'⟩
      exact ⟨_, rfl, slices_DeleteFunc_float64_float64.own hbg hh' hl' hm (Nat.le_trans (List.length_filter_le _ _) hn) ht', hB'⟩
  · obtain ⟨A, c, rfl⟩ := Kd.R_slice ho
    have hr := Kd.R_reads' ho
    have hall : ∀ j (hj : j < l.length), math_IsNaN.g (l[j]'hj) = false := fun j hj => Bool.eq_false_iff.2 (fun h => ha ⟨j, hj, h⟩)
    have hf : l.filter slices_DeleteFunc_float64_float64.keep = l := by
      rw [List.filter_eq_self]
      intro x hx
      obtain ⟨j, hj, rfl⟩ := List.getElem_of_mem hx
      unfold slices_DeleteFunc_float64_float64.keep
      rw [hall j hj]; rfl
    refine (slices_DeleteFunc_float64_float64.none_ A c l w hr.2.2 hr.2.1 hall).mono ?_
    rintro e w' ⟨rfl, hb⟩
    rw [hf]
    exact ⟨_, rfl, Kd.R_mono (Kd.R_below ho hb) (fun _ _ => trivial), below_step hB hb⟩


/-! ### slices_Clone_float64_float64: function 25 -/
def slices_Clone_float64_float64.f (l0 : List (Nat)) : Option (List (Nat)) := if l0.length < 17592186044416 then some l0 else none
set_option maxHeartbeats 8000000 in
set_option maxRecDepth 100000 in
theorem slices_Clone_float64_float64.calls (A0 : Option Addr) (c0 : Nat) (l0 : List (Nat)) (r : List (Nat)) (w : World) (hr0 : Kd.C (Kd.scalar (Value.float .f64) (fun _ => rfl)) w A0 l0.length l0) (hc0 : l0.length ≤ c0) (h : slices_Clone_float64_float64.f l0 = some r) :
    Calls Try.prog 25 #[.slice A0 l0.length c0] w fun e w' => ∃ v0_ : Value, e = .returned (v0_) ∧ Kd.R (Kd.scalar (Value.float .f64) (fun _ => rfl)) 22 w' w.heap.size (fun _ => True) v0_ r ∧ Below w.heap.size w w' := by
  unfold slices_Clone_float64_float64.f at h
  by_cases c : l0.length < 17592186044416
  · rw [if_pos c] at h
    obtain rfl := Option.some.inj h
    have LM := Aside0.mk c
    have HR0 := Aside0.mk hr0
    have HC0 := Aside0.mk hc0
    have HB := Aside0.mk (Below.refl w.heap.size w)
    clear c h hr0 hc0
    cases A0 with
    | none =>
      have hl : l0 = [] := by
        cases l0 with
        | nil => rfl
        | cons x l1 => exact absurd (at_f64 HR0.out 0 (by decide) (by simp only [List.length_cons]; omega)) (by rintro ⟨_, h_, _⟩; cases h_)
      subst hl
      have hq_ : ∀ w_ : World, Sem.run Try.prog (binOp .eql 31 (.slice none 0 c0) (.slice none 0 0)) w_ = .ok (.bool true) w_ := fun w_ => Lib.run_eql_slice_nil w_ 31 22 none 0 c0 0 0 Try.underlying31
      go_enter Try.func25, Try.ntmps25
      go_wp2
      go_ret
      exact ⟨_, rfl, Kd.R_nil _ _ _ _ _, by repeat (first | (with_reducible first | exact HB.out | apply below_alloc | apply pw_below_drewN | apply below_drew1) | exact HB.out)⟩
    | some ad =>
      have hq_ : ∀ w_ : World, Sem.run Try.prog (binOp .eql 31 (.slice (some ad) l0.length c0) (.slice none 0 0)) w_ = .ok (.bool false) w_ := fun w_ => Lib.run_eql_slice_nil w_ 31 22 (some ad) l0.length c0 0 0 Try.underlying31
      obtain ⟨y1, hy1⟩ : ∃ y_ : List (Nat), y_ = (([] : List (Nat))) := ⟨_, rfl⟩
      have Ny1 := Aside0.mk hy1
      obtain ⟨y2, hy2⟩ : ∃ y_ : List (Nat), y_ = (y1 ++ l0) := ⟨_, rfl⟩
      have Ny2 := Aside0.mk hy2
      have HE := Aside0.mk (show y2 = l0 by rw [hy2, hy1, List.nil_append])
      clear hy1 hy2
      go_enter Try.func25, Try.ntmps25
      go_wp2_with (first | ((with_reducible refine gate_dst (N := 5) rfl ?_); refine Kd.R_lit (Kd.scalar (Value.float .f64) (fun _ => rfl)) _ 22 ?hg (N := 5) ?hd (xs := ([] : List (Nat))) (inner := []) (ok := fun _ => True) (okp := fun _ => True) ?hr ?hp (fun _ hk => hk) trivial (Below.refl _ _) (Nat.le_refl _) (by simp) ?_; (case hd => rfl); (case hg => rfl); (case hr => first | (go_simp; done) | (go_simp; rfl)); (case hp => exact (Reps.none _ _)); intro v1 w1 ho12 hb hg_ hnew_; clear hg_ hnew_; (first | rw [← Ny1.out] at ho12 | (simp only [Int.reduceToNat] at ho12; rw [← Ny1.out] at ho12)); have n0_ := Aside0.mk (Kd.R_lower ho12 (below_size (by repeat (first | (with_reducible first | exact HB.out | apply below_alloc | apply pw_below_drewN | apply below_drew1) | exact HB.out)))); have n1_ := Aside0.mk (below_step (by repeat (first | (with_reducible first | exact HB.out | apply below_alloc | apply pw_below_drewN | apply below_drew1) | exact HB.out)) hb); clear HB; have HO1 := n0_; have HB := n1_; clear n0_ n1_; clear hb ho12) | ((with_reducible refine gate_builtin (b := .append) (xs := #[.tmp 5, .tmp 6]) rfl ?_); at_builtin; refine Kd.R_append_rows (Kd.scalar (Value.float .f64) (fun _ => rfl)) (w0 := w) w.heap.size rfl (.tmp 5) (.tmp 6) 31 22 (.float .f64 0) 8 rfl Try.underlying31 info22 rfl (by decide) (by omega) v1 y1 l0 _ _ _ (fun _ => True) (fun _ => False) rfl rfl ?aO ?aR (fun _ _ h => h) (fun _ h => h.elim) ?aF ?aB ?aS ?aL ?_; (case aR => repeat (first | exact (Kd.C_below HR0.out HB.out) | (with_reducible refine Kd.C_alloc ?_ _) | (with_reducible refine Kd.C_drewN ?_ _) | (with_reducible refine Kd.C_drew ?_))); (case aB => exact (by repeat (first | (with_reducible first | exact HB.out | apply below_alloc | apply pw_below_drewN | apply below_drew1) | exact HB.out))); (case aF => exact (fun _ _ => trivial)); (case aO => exact (by (with_reducible repeat (first | apply Kd.R_alloc | apply Kd.R_drewN | apply Kd.R_drew)); exact HO1.out)); (case aS => exact (below_size (by repeat (first | (with_reducible first | exact HB.out | apply below_alloc | apply pw_below_drewN | apply below_drew1) | exact HB.out)))); (case aL => have := LM.out; rw [Ny1.out]; simp only [List.length_nil]; omega); intro v2 w2 ho hb hg hat; rw [← Ny2.out] at ho; have n0_ := Aside0.mk (hb); have n1_ := Aside0.mk (ho); clear HB; clear HO1; have HB := n0_; have HO2 := n1_; clear n0_ n1_; clear ho hb hg hat))
      go_ret
      exact ⟨_, rfl, by rw [← HE.out]; (with_reducible repeat (first | apply Kd.R_alloc | apply Kd.R_drewN | apply Kd.R_drew)); exact HO2.out, by repeat (first | (with_reducible first | exact HB.out | apply below_alloc | apply pw_below_drewN | apply below_drew1) | exact HB.out)⟩
  · rw [if_neg c] at h; cases h


/-! ### impl_plain: function 28 -/
def impl_plain.g (a : Nat) : Nat := if (FloatKind.f64.format.order a 0 == some .eq) = true then 0 else a
theorem impl_plain.run (a : Nat) (r : Nat) (w : World) (h : impl_plain.g a = r) :
    Calls Try.prog 28 #[.float .f64 a] w fun e w' => e = .returned (.float .f64 r) ∧ Drawn0 w w' := by
  subst h
  unfold impl_plain.g
  cases h0 : (FloatKind.f64.format.order a 0 == some .eq)
  all_goals
    go_enter Try.func28, Try.ntmps28
    go_wp2
    go_ret
    exact ⟨by first | rfl | (simp; done), by repeat (first | exact Drawn0.refl _ | apply Drawn0.step)⟩

def impl_plain.f (a : Nat) : Option (Nat) := some (impl_plain.g a)
theorem impl_plain.calls (a : Nat) (r : Nat) (w : World) (h : impl_plain.f a = some r) :
    Calls Try.prog 28 #[.float .f64 a] w fun e w' => e = .returned (.float .f64 r) ∧ Below w.heap.size w w' := (impl_plain.run a r w (Option.some.inj h)).mono (by rintro e w1 ⟨h1, hb⟩; exact ⟨h1, by first | exact hb | (obtain ⟨nd, rfl⟩ := hb; repeat (first | exact Below.refl _ _ | apply below_alloc | apply pw_below_drewN | apply below_drew1))⟩)


/-! ### impl_isFinite_1: function 40 -/
def impl_isFinite_1.f (a : Nat) : Bool := math_IsNaN.g a || math_IsInf.g a
theorem impl_isFinite_1.calls (a : Nat) (r : Bool) (w : World) (h : impl_isFinite_1.f a = r) :
    Calls Try.prog 40 #[.float .f64 a] w fun e w' => e = .returned (.bool r) ∧ Drawn0 w w' := by
  subst h
  unfold impl_isFinite_1.f
  obtain ⟨bn, hn⟩ : ∃ b, math_IsNaN.g a = b := ⟨_, rfl⟩
  obtain ⟨bi, hi⟩ : ∃ b, math_IsInf.g a = b := ⟨_, rfl⟩
  have AN := Aside0.mk hn
  have AI := Aside0.mk hi
  rw [hn, hi]
  clear hn hi
  cases bn <;> cases bi
  all_goals
    go_enter Try.func40, Try.ntmps40
    go_wp2_with (first | (go_at_call 20; (with_reducible first | refine (math_IsNaN.run a true _ AN.out).mono ?_ | refine (math_IsNaN.run a false _ AN.out).mono ?_); rintro e w' ⟨rfl, ⟨nd, rfl⟩⟩) | (go_at_call 29; (with_reducible first | refine (math_IsInf.run a true _ AI.out).mono ?_ | refine (math_IsInf.run a false _ AI.out).mono ?_); rintro e w' ⟨rfl, ⟨nd, rfl⟩⟩))
    go_ret
    exact ⟨by first | rfl | (simp; done), by repeat (first | exact Drawn0.refl _ | apply Drawn0.step)⟩


/-! ### slices_ContainsFunc_float64_float64: function 35 -/
theorem slices_ContainsFunc_float64_float64.at_ {w : World} {A : Option Addr} {n : Nat} {xs : List Nat} (h : Kd.C (Kd.scalar (Value.float .f64) (fun _ => rfl)) w A n xs) (i : Int) (h0 : 0 ≤ i) (h1 : i < n) : ∃ ad, A = some ad ∧ w.cell? (ad.add i.toNat) = some (.float .f64 (rdOf 0 xs i)) :=
  ReadsOf.at_ (Kd.reads_of_C (enc := Value.float .f64) (d := (0 : Nat)) (h1 := fun _ => rfl) h) i h0 h1
set_option maxHeartbeats 8000000 in
set_option maxRecDepth 100000 in
theorem slices_ContainsFunc_float64_float64.index (A0 : Option Addr) (c0 : Nat) (l0 : List Nat) (w : World) (hr0 : Kd.C (Kd.scalar (Value.float .f64) (fun _ => rfl)) w A0 l0.length l0) (hc0 : l0.length ≤ c0) :
    Calls Try.prog 34 #[.slice A0 l0.length c0, .func (.func 40) #[] #[]] w fun e w' => e = .returned (.int .i64 (idxO impl_isFinite_1.f l0)) ∧ Below w.heap.size w w' := by
  have hn : l0.length ≤ 9223372036854775807 := hr0.2.1
  have eg := Go.Proofs.enters_of Try.func40 (by kernel_rfl) rfl
  have HR0 := Aside0.mk hr0
  clear hr0
  go_enter Try.func34, Try.ntmps34
  go_wp2
  go_loopg [5, 8] l0.length (fun gg _ s8 wr => ∃ kk : Nat, kk ≤ l0.length ∧ l0.length - kk ≤ gg ∧ s8 = .int .i64 (kk : Int) ∧ Aside0 (Below w.heap.size w wr) ∧ Aside0 (∀ j (hj : j < l0.length), j < kk → impl_isFinite_1.f (l0[j]'hj) = false))
  case atStart => exact ⟨0, Nat.zero_le _, by omega, rfl, ⟨Below.refl _ w⟩, ⟨fun j hj h => absurd h (Nat.not_lt_zero _)⟩⟩
  case round =>
    obtain ⟨kk, hkk, hg, rfl, HB, HN⟩ := hrel
    by_cases hlt : kk < l0.length
    · have hltz : (kk : Int) < (l0.length : Int) := by omega
      have p1 : 0 ≤ (kk : Int) := by omega
      obtain ⟨ad1, e1, hx0⟩ := slices_ContainsFunc_float64_float64.at_ HR0.out (kk : Int) p1 hltz
      have hy : rdOf 0 l0 (kk : Int) = l0[kk]'hlt := by simp [rdOf, hlt]
      cases e1
      rw [hy] at hx0; clear hy
      replace hx0 := (HB.out.cell (World.block_lt_of_cell? w _ hx0)).trans hx0
      simp only [Int.toNat_natCast] at hx0
      generalize hy : l0[kk]'hlt = y at hx0
      have HE := Aside0.mk hy; clear hy
      replace p1 := eq_true p1
      by_cases hq : impl_isFinite_1.f y = true
      · have HQ1 := Aside0.mk hq; clear hq
        go_wp2_with fail
        refine (impl_isFinite_1.calls y true _ HQ1.out).mono ?_
        rintro e w' ⟨rfl, ⟨nd, rfl⟩⟩
        go_wp2
        go_ret
        refine ⟨?_, by repeat (first | (with_reducible first | exact HB.out | apply below_alloc | apply pw_below_drewN | apply below_drew1) | exact HB.out)⟩
        rw [idxO_hit hlt (by rw [HE.out]; exact HQ1.out) (fun j hj => HN.out j (by omega) hj)]
        rfl
      · have HQ1 := Aside0.mk (Bool.eq_false_iff.mpr hq); clear hq
        go_wp2_with fail
        refine (impl_isFinite_1.calls y false _ HQ1.out).mono ?_
        rintro e w' ⟨rfl, ⟨nd, rfl⟩⟩
        go_wp2
        go_roundg (l0.length - (kk + 1))
        case measure => omega
        case rel =>
          refine ⟨kk + 1, by omega, by omega, by go_num, ⟨by repeat (first | (with_reducible first | exact HB.out | apply below_alloc | apply pw_below_drewN | apply below_drew1) | exact HB.out)⟩, ⟨fun j hj h => ?_⟩⟩
          by_cases e : j = kk
          · subst e; rw [HE.out]; exact HQ1.out
          · exact HN.out j hj (by omega)
    · have hltz : ¬ (kk : Int) < (l0.length : Int) := by omega
      have hke : kk = l0.length := by omega
      have HM := Aside0.mk (idxO_miss (p := impl_isFinite_1.f) (fun j hj => HN.out j hj (by omega)))
      clear hke HN
      go_wp2
      go_ret
      exact ⟨by rw [HM.out]; rfl, HB.out⟩
set_option maxHeartbeats 8000000 in
theorem slices_ContainsFunc_float64_float64.calls (A0 : Option Addr) (c0 : Nat) (l0 : List Nat) (w : World) (hr0 : Kd.C (Kd.scalar (Value.float .f64) (fun _ => rfl)) w A0 l0.length l0) (hc0 : l0.length ≤ c0) (r : Bool) (h : l0.any impl_isFinite_1.f = r) :
    Calls Try.prog 35 #[.slice A0 l0.length c0, .func (.func 40) #[] #[]] w fun e w' => e = .returned (.bool r) ∧ Below w.heap.size w w' := by
  subst h
  rw [← idxO_nonneg]
  have hi := idxO_range impl_isFinite_1.f l0
  have hl := hr0.2.1
  have HR := Aside0.mk hr0
  clear hr0
  go_enter Try.func35, Try.ntmps35
  go_wp2_with (first | (go_at_call 34; (with_reducible refine (slices_ContainsFunc_float64_float64.index A0 c0 l0 _ HR.out hc0).mono ?_); rintro e w' ⟨rfl, hb⟩))
  go_ret
  exact ⟨rfl, hb⟩


/-! ### impl_isFinite: function 32 -/
def impl_isFinite.g (l0 : List Nat) : Bool := !(l0.any impl_isFinite_1.f)
theorem impl_isFinite.run (A0 : Option Addr) (c0 : Nat) (l0 : List Nat) (w : World) (hr0 : Kd.C (Kd.scalar (Value.float .f64) (fun _ => rfl)) w A0 l0.length l0) (hc0 : l0.length ≤ c0) (r : Bool) (h : impl_isFinite.g l0 = r) :
    Calls Try.prog 32 #[.slice A0 l0.length c0] w fun e w' => e = .returned (.bool r) ∧ Below w.heap.size w w' := by
  subst h
  unfold impl_isFinite.g
  obtain ⟨b, hb⟩ : ∃ b, l0.any impl_isFinite_1.f = b := ⟨_, rfl⟩
  have HA := Aside0.mk hb
  have HR := Aside0.mk hr0
  rw [hb]
  clear hb hr0
  go_enter Try.func32, Try.ntmps32
  go_wp2_with (first | (go_at_call 35; (with_reducible refine (slices_ContainsFunc_float64_float64.calls A0 c0 l0 _ HR.out hc0 b HA.out).mono ?_); rintro e w' ⟨rfl, hb⟩))
  go_ret
  exact ⟨rfl, hb⟩

def impl_isFinite.f (l0 : List Nat) : Option (Bool) := some (impl_isFinite.g l0)
theorem impl_isFinite.calls (A0 : Option Addr) (c0 : Nat) (l0 : List Nat) (r : Bool) (w : World) (hr0 : Kd.C (Kd.scalar (Value.float .f64) (fun _ => rfl)) w A0 l0.length l0) (hc0 : l0.length ≤ c0) (h : impl_isFinite.f l0 = some r) :
    Calls Try.prog 32 #[.slice A0 l0.length c0] w fun e w' => e = .returned (.bool r) ∧ Below w.heap.size w w' := (impl_isFinite.run A0 c0 l0 w hr0 hc0 r (Option.some.inj h)).mono (by rintro e w1 ⟨h1, hb⟩; exact ⟨h1, by first | exact hb | (obtain ⟨nd, rfl⟩ := hb; repeat (first | exact Below.refl _ _ | apply below_alloc | apply pw_below_drewN | apply below_drew1))⟩)

/-! ### impl_sumOf: function 26 -/
def impl_sumOf.l0 : Nat → Nat → List Nat → Int → Int → Option (Nat × Bool)
  | 0, _, _, _, _ => none
  | k + 1, x4, x7, x8, x9 => if x9 < x8 then (if 0 ≤ x9 then (if x9 < (x7.length : Int) then ((floatBits .add .f64 x4 (rdOf (0 : Nat) x7 x9)).bind fun t122 => ((impl_isFinite.f (([t122] : List Nat))).bind fun t126 => (if t126 = true then (impl_sumOf.l0 k t122 x7 x8 (wrap64 (x9 + 1))) else (some (0, false))))) else (none)) else (none)) else ((impl_plain.f x4).bind fun t127 => (some (t127, true)))
def impl_sumOf.f (k : Nat) (l0 : List Nat) : Option (Nat × Bool) := impl_sumOf.l0 k 0 l0 (l0.length : Int) 0
theorem impl_sumOf.mono_l : ∀ k, (∀ y0 y1 y2 y3, LeO (impl_sumOf.l0 k y0 y1 y2 y3) (impl_sumOf.l0 (k + 1) y0 y1 y2 y3))
  | 0 => fun _ _ _ _ r h => by simp [impl_sumOf.l0] at h
  | k + 1 => by
    have ih0 := impl_sumOf.mono_l k
    · intro y0 y1 y2 y3
      unfold impl_sumOf.l0
      repeat' first
      | (with_reducible exact ih0 _ _ _ _)
      | (with_reducible exact LeO.refl _)
      | (with_reducible exact LeO.none _)
      | (with_reducible refine LeO.ite ?_ ?_)
      | (with_reducible refine LeO.bind ?_ (fun _ => ?_))
      | exact ih0 _ _ _ _
      | exact LeO.none _
      | refine LeO.ite ?_ ?_
      | refine LeO.bind ?_ (fun _ => ?_)
theorem impl_sumOf.mono : ∀ a0 k, LeO (impl_sumOf.f k a0) (impl_sumOf.f (k + 1) a0) := by
  intro a0 k
  have ih0 := impl_sumOf.mono_l k
  unfold impl_sumOf.f
  repeat' first
      | (with_reducible exact ih0 _ _ _ _)
      | (with_reducible exact LeO.refl _)
      | (with_reducible exact LeO.none _)
      | (with_reducible refine LeO.ite ?_ ?_)
      | (with_reducible refine LeO.bind ?_ (fun _ => ?_))
      | exact ih0 _ _ _ _
      | exact LeO.none _
      | refine LeO.ite ?_ ?_
      | refine LeO.bind ?_ (fun _ => ?_)
set_option maxHeartbeats 8000000 in
set_option maxRecDepth 100000 in
theorem impl_sumOf.calls (k : Nat) (A0 : Option Addr) (c0 : Nat) (l0 : List Nat) (r1 : Nat) (r2 : Bool) (w : World) (hr0 : Kd.C (Kd.scalar (Value.float .f64) (fun _ => rfl)) w A0 l0.length l0) (hc0 : l0.length ≤ c0) (h : impl_sumOf.f k l0 = some (r1, r2)) :
    Calls Try.prog 26 #[.slice A0 l0.length c0] w fun e w' => e = .returned (.tuple #[.float .f64 r1, .bool r2]) ∧ Below w.heap.size w w' := by
  have HR0 := Aside0.mk hr0
  have HC0 := Aside0.mk hc0
  clear hr0 hc0
  have HB := Aside0.mk (Below.refl w.heap.size w)
  have H : (impl_sumOf.l0 k 0 l0 (l0.length : Int) 0) = some (r1, r2) := h
  clear h
  have H' := Aside0.mk H
  clear H
  go_enter Try.func26, Try.ntmps26
  go_wp2
  go_loopg [4, 9] k (fun kq v4 v9 w' => ∃ (x4_1 : Nat) (x9_1 : Int), v4 = .float .f64 x4_1 ∧ v9 = .int .i64 x9_1 ∧ Aside0 (impl_sumOf.l0 kq x4_1 l0 (l0.length : Int) x9_1 = some (r1, r2)) ∧ Aside0 (kq ≤ k) ∧ Aside0 (Below w.heap.size w w'))
  case atStart => exact ⟨(0), (0), (by first | rfl | (simp; done) | (simp [*]; done)), (by first | rfl | (simp; done) | (simp [*]; done)), H', ⟨Nat.le_refl _⟩, ⟨by repeat (first | (with_reducible first | exact HB.out | apply below_alloc | apply pw_below_drewN | apply below_drew1) | exact HB.out)⟩⟩
  case round =>
    clear H'
    obtain ⟨x4_1, x9_1, rfl, rfl, HA, HK1, HB⟩ := hrel
    cases gk with
    | zero => exact absurd HA.out (by simp [impl_sumOf.l0])
    | succ k1 =>
      have H := HA.out
      clear HA
      simp only [impl_sumOf.l0] at H
      by_cases c2 : x9_1 < (l0.length : Int)
      · rw [if_pos c2] at H
        have c2b0 : decide (x9_1 < (l0.length : Int)) = true := decide_eq_true c2
        clear c2
        by_cases c3 : 0 ≤ x9_1
        · rw [if_pos c3] at H
          have c3b0 : decide (0 ≤ x9_1) = true := decide_eq_true c3
          clear c3
          by_cases c4 : x9_1 < (l0.length : Int)
          · rw [if_pos c4] at H
            have c4b0 : decide (x9_1 < (l0.length : Int)) = true := decide_eq_true c4
            clear c4
            replace H := Option.bind_eq_some_iff.mp H
            obtain ⟨t122, A50, H⟩ := H
            replace H : ((impl_isFinite.f (([t122] : List Nat))).bind fun t126 => (if t126 = true then (impl_sumOf.l0 k1 t122 l0 (l0.length : Int) (wrap64 (x9_1 + 1))) else (some (0, false)))) = some (r1, r2) := H
            have hfA5 := fun w => run_float_arith (P := Try.prog) w .add 22 .f64 x4_1 (rdOf (0 : Nat) l0 x9_1) t122 A50
            clear A50
            obtain ⟨y123, hy123⟩ : ∃ y_ : List Nat, y_ = (([t122] : List Nat)) := ⟨_, rfl⟩
            replace H : ((impl_isFinite.f y123).bind fun t126 => (if t126 = true then (impl_sumOf.l0 k1 t122 l0 (l0.length : Int) (wrap64 (x9_1 + 1))) else (some (0, false)))) = some (r1, r2) := by first | (rw [hy123]; with_reducible exact H) | (have H2_ := (Option.bind_some _ _).symm.trans H; rw [hy123]; with_reducible exact H2_) | (have H2_ := (Option.bind_some _ _).symm.trans H; with_reducible exact H2_) | with_reducible exact H | (rw [hy123]; exact H) | exact H
            have Ny123 := Aside0.mk hy123
            clear hy123
            replace H := Option.bind_eq_some_iff.mp H
            obtain ⟨t126, A60, H⟩ := H
            replace H : (if t126 = true then (impl_sumOf.l0 k1 t122 l0 (l0.length : Int) (wrap64 (x9_1 + 1))) else (some (0, false))) = some (r1, r2) := H
            have A6 := Aside0.mk A60
            clear A60
            by_cases c7 : t126 = true
            · subst c7
              have H1 : (impl_sumOf.l0 k1 t122 l0 (l0.length : Int) (wrap64 (x9_1 + 1))) = some (r1, r2) := by rw [if_pos rfl] at H; exact H
              clear H
              have H := H1
              clear H1
              have H' := Aside0.mk H
              clear H
              have p121 : 0 ≤ (x9_1 : Int) := of_decide_eq_true (by first | (with_reducible assumption) | assumption)
              have q121 : x9_1 < (l0.length : Int) := of_decide_eq_true (by first | (with_reducible assumption) | assumption)
              obtain ⟨ad121, e121, hx121_0⟩ := at_f64 HR0.out x9_1 p121 q121
              cases e121
              replace hx121_0 := (HB.out.cell (World.block_lt_of_cell? w _ hx121_0)).trans hx121_0
              replace p121 := eq_true p121
              replace q121 := eq_true q121
              go_wp2_with (first | ((with_reducible refine gate_dst (N := 17) rfl ?_); refine Kd.R_lit (Kd.scalar (Value.float .f64) (fun _ => rfl)) _ 22 ?hg (N := 17) ?hd (xs := ([t122] : List Nat)) (inner := [.float .f64 t122]) (ok := fun _ => True) (okp := fun _ => True) ?hr ?hp (fun _ hk => hk) trivial (Below.refl _ _) (Nat.le_refl _) (by simp) ?_; (case hd => rfl); (case hg => rfl); (case hr => first | (go_simp; done) | (go_simp; rfl)); (case hp => exact (Reps.one (show Kd.M (Kd.scalar (Value.float .f64) (fun _ => rfl)) _ _ _ t122 [.float .f64 t122] from rfl) (Reps.none _ _))); intro v124 w8 ho9 hb hg_ hnew_; clear hg_ hnew_; (first | rw [← Ny123.out] at ho9 | (simp only [Int.reduceToNat] at ho9; rw [← Ny123.out] at ho9)); have n0_ := Aside0.mk (Kd.R_lower ho9 (below_size (by repeat (first | (with_reducible first | exact HB.out | apply below_alloc | apply pw_below_drewN | apply below_drew1) | exact HB.out)))); have n1_ := Aside0.mk (below_step (by repeat (first | (with_reducible first | exact HB.out | apply below_alloc | apply pw_below_drewN | apply below_drew1) | exact HB.out)) hb); clear HB; have HO125 := n0_; have HB := n1_; clear n0_ n1_; clear hb ho9; obtain ⟨Ao10, co10, eo10⟩ := Kd.R_slice HO125.out; subst eo10) | ((with_reducible refine gate_callee (f := 32) rfl ?_); refine goesL_ (some 18) rfl rfl Try.func32 (by kernel_rfl) rfl #[.slice Ao10 y123.length co10] rfl (by (try simp only [List.map_toArray, List.map_cons, List.map_nil]); first | done | rfl | (simp only [List.length_drop, List.length_take]; rfl)) ?_; (with_reducible refine (impl_isFinite.calls _ _ y123 true _ ?side1 ?side2 A6.out).mono ?_); (case side1 => repeat (first | exact (Kd.R_reads' HO125.out).2.2 | (with_reducible refine Kd.C_alloc ?_ _) | (with_reducible refine Kd.C_drewN ?_ _) | (with_reducible refine Kd.C_drew ?_))); (case side2 => exact (Kd.R_reads' HO125.out).2.1); rintro e w11 ⟨rfl, hb⟩; refine ⟨_, rfl, ?_⟩; have n0_ := Aside0.mk (Kd.R_below (by (with_reducible repeat (first | apply Kd.R_alloc | apply Kd.R_drewN | apply Kd.R_drew)); exact HO125.out) hb); have n1_ := Aside0.mk (below_step (by repeat (first | (with_reducible first | exact HB.out | apply below_alloc | apply pw_below_drewN | apply below_drew1) | exact HB.out)) hb); clear HO125; clear HB; have HO125 := n0_; have HB := n1_; clear n0_ n1_; (try clear hb); (try clear hb2); (try clear hk); (try clear hi)))
              go_roundg k1
              case measure => have := HK1.out; omega
              case rel => exact ⟨(t122), (wrap64 (x9_1 + 1)), (by first | rfl | (simp; done) | (simp [*]; done)), (by first | rfl | (simp; done) | (simp [*]; done)), H', ⟨by have := HK1.out; omega⟩, ⟨by repeat (first | (with_reducible first | exact HB.out | apply below_alloc | apply pw_below_drewN | apply below_drew1) | exact HB.out)⟩⟩
            · replace c7 := Bool.eq_false_iff.mpr c7
              subst c7
              have H1 : (some (0, false)) = some (r1, r2) := by rw [if_neg (show ¬ (false = true) by decide)] at H; exact H
              clear H
              have H := H1
              clear H1
              simp only [Option.some.injEq, Prod.mk.injEq] at H
              obtain ⟨rfl, rfl⟩ := H
              have p121 : 0 ≤ (x9_1 : Int) := of_decide_eq_true (by first | (with_reducible assumption) | assumption)
              have q121 : x9_1 < (l0.length : Int) := of_decide_eq_true (by first | (with_reducible assumption) | assumption)
              obtain ⟨ad121, e121, hx121_0⟩ := at_f64 HR0.out x9_1 p121 q121
              cases e121
              replace hx121_0 := (HB.out.cell (World.block_lt_of_cell? w _ hx121_0)).trans hx121_0
              replace p121 := eq_true p121
              replace q121 := eq_true q121
              go_wp2_with (first | ((with_reducible refine gate_dst (N := 17) rfl ?_); refine Kd.R_lit (Kd.scalar (Value.float .f64) (fun _ => rfl)) _ 22 ?hg (N := 17) ?hd (xs := ([t122] : List Nat)) (inner := [.float .f64 t122]) (ok := fun _ => True) (okp := fun _ => True) ?hr ?hp (fun _ hk => hk) trivial (Below.refl _ _) (Nat.le_refl _) (by simp) ?_; (case hd => rfl); (case hg => rfl); (case hr => first | (go_simp; done) | (go_simp; rfl)); (case hp => exact (Reps.one (show Kd.M (Kd.scalar (Value.float .f64) (fun _ => rfl)) _ _ _ t122 [.float .f64 t122] from rfl) (Reps.none _ _))); intro v124 w12 ho13 hb hg_ hnew_; clear hg_ hnew_; (first | rw [← Ny123.out] at ho13 | (simp only [Int.reduceToNat] at ho13; rw [← Ny123.out] at ho13)); have n0_ := Aside0.mk (Kd.R_lower ho13 (below_size (by repeat (first | (with_reducible first | exact HB.out | apply below_alloc | apply pw_below_drewN | apply below_drew1) | exact HB.out)))); have n1_ := Aside0.mk (below_step (by repeat (first | (with_reducible first | exact HB.out | apply below_alloc | apply pw_below_drewN | apply below_drew1) | exact HB.out)) hb); clear HB; have HO125 := n0_; have HB := n1_; clear n0_ n1_; clear hb ho13; obtain ⟨Ao14, co14, eo14⟩ := Kd.R_slice HO125.out; subst eo14) | ((with_reducible refine gate_callee (f := 32) rfl ?_); refine goesL_ (some 18) rfl rfl Try.func32 (by kernel_rfl) rfl #[.slice Ao14 y123.length co14] rfl (by (try simp only [List.map_toArray, List.map_cons, List.map_nil]); first | done | rfl | (simp only [List.length_drop, List.length_take]; rfl)) ?_; (with_reducible refine (impl_isFinite.calls _ _ y123 false _ ?side1 ?side2 A6.out).mono ?_); (case side1 => repeat (first | exact (Kd.R_reads' HO125.out).2.2 | (with_reducible refine Kd.C_alloc ?_ _) | (with_reducible refine Kd.C_drewN ?_ _) | (with_reducible refine Kd.C_drew ?_))); (case side2 => exact (Kd.R_reads' HO125.out).2.1); rintro e w15 ⟨rfl, hb⟩; refine ⟨_, rfl, ?_⟩; have n0_ := Aside0.mk (Kd.R_below (by (with_reducible repeat (first | apply Kd.R_alloc | apply Kd.R_drewN | apply Kd.R_drew)); exact HO125.out) hb); have n1_ := Aside0.mk (below_step (by repeat (first | (with_reducible first | exact HB.out | apply below_alloc | apply pw_below_drewN | apply below_drew1) | exact HB.out)) hb); clear HO125; clear HB; have HO125 := n0_; have HB := n1_; clear n0_ n1_; (try clear hb); (try clear hb2); (try clear hk); (try clear hi)))
              go_ret2
              exact ⟨by first | rfl | (simp [errW_none, errW_some] <;> rfl) | (simp [*, errW_none, errW_some] <;> rfl), by repeat (first | (with_reducible first | exact HB.out | apply below_alloc | apply pw_below_drewN | apply below_drew1) | exact HB.out)⟩
          · rw [if_neg c4] at H
            exact absurd H (by simp)
        · rw [if_neg c3] at H
          exact absurd H (by simp)
      · rw [if_neg c2] at H
        have c2b0 : decide (x9_1 < (l0.length : Int)) = false := decide_eq_false c2
        clear c2
        replace H := Option.bind_eq_some_iff.mp H
        obtain ⟨t127, A160, H⟩ := H
        replace H : (some (t127, true)) = some (r1, r2) := H
        have A16 := Aside0.mk A160
        clear A160
        simp only [Option.some.injEq, Prod.mk.injEq] at H
        obtain ⟨rfl, rfl⟩ := H
        go_wp2_with (first | ((with_reducible refine gate_callee (f := 28) rfl ?_); refine goesL_ (some 22) rfl rfl Try.func28 (by kernel_rfl) rfl #[.float .f64 x4_1] rfl (by (try simp only [List.map_toArray, List.map_cons, List.map_nil]); first | done | rfl | (simp only [List.length_drop, List.length_take]; rfl)) ?_; (with_reducible refine (impl_plain.calls x4_1 t127 _ A16.out).mono ?_); rintro e w17 ⟨rfl, hb⟩; refine ⟨_, rfl, ?_⟩; have n0_ := Aside0.mk (below_step (by repeat (first | (with_reducible first | exact HB.out | apply below_alloc | apply pw_below_drewN | apply below_drew1) | exact HB.out)) hb); clear HB; have HB := n0_; clear n0_; (try clear hb); (try clear hb2); (try clear hk); (try clear hi)))
        go_ret2
        exact ⟨by first | rfl | (simp [errW_none, errW_some] <;> rfl) | (simp [*, errW_none, errW_some] <;> rfl), by repeat (first | (with_reducible first | exact HB.out | apply below_alloc | apply pw_below_drewN | apply below_drew1) | exact HB.out)⟩


/-! ### impl_GoodReal: function 37 -/
def impl_GoodReal.g (a : Nat) : Bool := impl_isFinite.g [a] && ((FloatKind.f64.format.order a 0 != some .eq) || !(math_Signbit.f a))
set_option maxHeartbeats 8000000 in
theorem impl_GoodReal.run (a : Nat) (r : Bool) (w : World) (h : impl_GoodReal.g a = r) :
    Calls Try.prog 37 #[.float .f64 a] w fun e w' => e = .returned (.bool r) ∧ Below w.heap.size w w' := by
  subst h
  unfold impl_GoodReal.g
  have HB := Aside0.mk (Below.refl w.heap.size w)
  obtain ⟨y, hy⟩ : ∃ y_ : List Nat, y_ = [a] := ⟨_, rfl⟩
  obtain ⟨bf, hf⟩ : ∃ b, impl_isFinite.g y = b := ⟨_, rfl⟩
  obtain ⟨bs, hs⟩ : ∃ b, math_Signbit.f a = b := ⟨_, rfl⟩
  rw [← hy, hf, hs]
  have Ny := Aside0.mk hy
  have AF := Aside0.mk hf
  have AS := Aside0.mk hs
  clear hy hf hs
  cases bf <;> cases h0 : (FloatKind.f64.format.order a 0 != some .eq) <;> cases bs
  all_goals
    go_enter Try.func37, Try.ntmps37
    go_wp2_with (first | ((with_reducible refine gate_dst (N := 4) rfl ?_); refine Kd.R_lit (Kd.scalar (Value.float .f64) (fun _ => rfl)) _ 22 ?hg (N := 4) ?hd (xs := ([a] : List Nat)) (inner := [.float .f64 a]) (ok := fun _ => True) (okp := fun _ => True) ?hr ?hp (fun _ hk => hk) trivial (Below.refl _ _) (Nat.le_refl _) (by simp) ?_; (case hd => rfl); (case hg => rfl); (case hr => first | (go_simp; done) | (go_simp; rfl)); (case hp => exact (Reps.one (show Kd.M (Kd.scalar (Value.float .f64) (fun _ => rfl)) _ _ _ a [.float .f64 a] from rfl) (Reps.none _ _))); intro v1 w1 ho hb hg_ hnew_; clear hg_ hnew_; (first | rw [← Ny.out] at ho | (simp only [Int.reduceToNat] at ho; rw [← Ny.out] at ho)); have n1_ := Aside0.mk (below_step (by repeat (first | (with_reducible first | exact HB.out | apply below_alloc | apply pw_below_drewN | apply below_drew1) | exact HB.out)) hb); have HO := Aside0.mk ho; clear HB; have HB := n1_; clear n1_; clear hb ho; obtain ⟨Ao, co, eo⟩ := Kd.R_slice HO.out; subst eo) | (go_at_call 32; (with_reducible first | refine (impl_isFinite.run Ao co y _ (Kd.R_reads' HO.out).2.2 (Kd.R_reads' HO.out).2.1 true AF.out).mono ?_ | refine (impl_isFinite.run Ao co y _ (Kd.R_reads' HO.out).2.2 (Kd.R_reads' HO.out).2.1 false AF.out).mono ?_); rintro e w' ⟨rfl, hb⟩; have n1_ := Aside0.mk (below_step (by repeat (first | (with_reducible first | exact HB.out | apply below_alloc | apply pw_below_drewN | apply below_drew1) | exact HB.out)) hb); clear HB hb; have HB := n1_; clear n1_) | (go_at_call 33; (with_reducible first | refine (math_Signbit.calls a true _ AS.out).mono ?_ | refine (math_Signbit.calls a false _ AS.out).mono ?_); rintro e w' ⟨rfl, ⟨nd, rfl⟩⟩))
    go_ret
    exact ⟨by first | rfl | (simp; done), by repeat (first | (with_reducible first | exact HB.out | apply below_alloc | apply pw_below_drewN | apply below_drew1) | exact HB.out)⟩

def impl_GoodReal.f (a : Nat) : Option (Bool) := some (impl_GoodReal.g a)
theorem impl_GoodReal.calls (a : Nat) (r : Bool) (w : World) (h : impl_GoodReal.f a = some r) :
    Calls Try.prog 37 #[.float .f64 a] w fun e w' => e = .returned (.bool r) ∧ Below w.heap.size w w' := (impl_GoodReal.run a r w (Option.some.inj h)).mono (by rintro e w1 ⟨h1, hb⟩; exact ⟨h1, by first | exact hb | (obtain ⟨nd, rfl⟩ := hb; repeat (first | exact Below.refl _ _ | apply below_alloc | apply pw_below_drewN | apply below_drew1))⟩)


/-! ### impl_areGood_1: function 36 -/
def impl_areGood_1.f (a : Nat) : Bool := !(impl_GoodReal.g a)
set_option maxHeartbeats 8000000 in
theorem impl_areGood_1.calls (a : Nat) (r : Bool) (w : World) (h : impl_areGood_1.f a = r) :
    Calls Try.prog 36 #[.float .f64 a] w fun e w' => e = .returned (.bool r) ∧ Below w.heap.size w w' := by
  subst h
  unfold impl_areGood_1.f
  have HB := Aside0.mk (Below.refl w.heap.size w)
  obtain ⟨b, hb⟩ : ∃ b, impl_GoodReal.g a = b := ⟨_, rfl⟩
  have AB := Aside0.mk hb
  rw [hb]
  clear hb
  go_enter Try.func36, Try.ntmps36
  go_wp2_with (go_at_call 37; (with_reducible first | refine (impl_GoodReal.run a b _ AB.out).mono ?_); rintro e w' ⟨rfl, hb⟩; have n0_ := Aside0.mk (below_step (by repeat (first | (with_reducible first | exact HB.out | apply below_alloc | apply pw_below_drewN | apply below_drew1) | exact HB.out)) hb); clear HB hb; have HB := n0_; clear n0_)
  go_ret
  exact ⟨by first | rfl | (simp; done), by repeat (first | (with_reducible first | exact HB.out | apply below_alloc | apply pw_below_drewN | apply below_drew1) | exact HB.out)⟩


/-! ### impl_areGood: function 27 -/
theorem impl_areGood.at_ {w : World} {A : Option Addr} {n : Nat} {xs : List Nat} (h : Kd.C (Kd.scalar (Value.float .f64) (fun _ => rfl)) w A n xs) (i : Int) (h0 : 0 ≤ i) (h1 : i < n) : ∃ ad, A = some ad ∧ w.cell? (ad.add i.toNat) = some (.float .f64 (rdOf 0 xs i)) :=
  ReadsOf.at_ (Kd.reads_of_C (enc := Value.float .f64) (d := (0 : Nat)) (h1 := fun _ => rfl) h) i h0 h1
set_option maxHeartbeats 8000000 in
set_option maxRecDepth 100000 in
theorem impl_areGood.index (A0 : Option Addr) (c0 : Nat) (l0 : List Nat) (w : World) (hr0 : Kd.C (Kd.scalar (Value.float .f64) (fun _ => rfl)) w A0 l0.length l0) (hc0 : l0.length ≤ c0) :
    Calls Try.prog 34 #[.slice A0 l0.length c0, .func (.func 36) #[] #[]] w fun e w' => e = .returned (.int .i64 (idxO impl_areGood_1.f l0)) ∧ Below w.heap.size w w' := by
  have hn : l0.length ≤ 9223372036854775807 := hr0.2.1
  have eg := Go.Proofs.enters_of Try.func36 (by kernel_rfl) rfl
  have HR0 := Aside0.mk hr0
  clear hr0
  go_enter Try.func34, Try.ntmps34
  go_wp2
  go_loopg [5, 8] l0.length (fun gg _ s8 wr => ∃ kk : Nat, kk ≤ l0.length ∧ l0.length - kk ≤ gg ∧ s8 = .int .i64 (kk : Int) ∧ Aside0 (Below w.heap.size w wr) ∧ Aside0 (∀ j (hj : j < l0.length), j < kk → impl_areGood_1.f (l0[j]'hj) = false))
  case atStart => exact ⟨0, Nat.zero_le _, by omega, rfl, ⟨Below.refl _ w⟩, ⟨fun j hj h => absurd h (Nat.not_lt_zero _)⟩⟩
  case round =>
    obtain ⟨kk, hkk, hg, rfl, HB, HN⟩ := hrel
    by_cases hlt : kk < l0.length
    · have hltz : (kk : Int) < (l0.length : Int) := by omega
      have p1 : 0 ≤ (kk : Int) := by omega
      obtain ⟨ad1, e1, hx0⟩ := impl_areGood.at_ HR0.out (kk : Int) p1 hltz
      have hy : rdOf 0 l0 (kk : Int) = l0[kk]'hlt := by simp [rdOf, hlt]
      cases e1
      rw [hy] at hx0; clear hy
      replace hx0 := (HB.out.cell (World.block_lt_of_cell? w _ hx0)).trans hx0
      simp only [Int.toNat_natCast] at hx0
      generalize hy : l0[kk]'hlt = y at hx0
      have HE := Aside0.mk hy; clear hy
      replace p1 := eq_true p1
      by_cases hq : impl_areGood_1.f y = true
      · have HQ1 := Aside0.mk hq; clear hq
        go_wp2_with fail
        refine (impl_areGood_1.calls y true _ HQ1.out).mono ?_
        rintro e w' ⟨rfl, hb⟩
        have n0_ := Aside0.mk (below_step (by repeat (first | (with_reducible first | exact HB.out | apply below_alloc | apply pw_below_drewN | apply below_drew1) | exact HB.out)) hb); clear HB hb; have HB := n0_; clear n0_
        go_wp2
        go_ret
        refine ⟨?_, by repeat (first | (with_reducible first | exact HB.out | apply below_alloc | apply pw_below_drewN | apply below_drew1) | exact HB.out)⟩
        rw [idxO_hit hlt (by rw [HE.out]; exact HQ1.out) (fun j hj => HN.out j (by omega) hj)]
        rfl
      · have HQ1 := Aside0.mk (Bool.eq_false_iff.mpr hq); clear hq
        go_wp2_with fail
        refine (impl_areGood_1.calls y false _ HQ1.out).mono ?_
        rintro e w' ⟨rfl, hb⟩
        have n0_ := Aside0.mk (below_step (by repeat (first | (with_reducible first | exact HB.out | apply below_alloc | apply pw_below_drewN | apply below_drew1) | exact HB.out)) hb); clear HB hb; have HB := n0_; clear n0_
        go_wp2
        go_roundg (l0.length - (kk + 1))
        case measure => omega
        case rel =>
          refine ⟨kk + 1, by omega, by omega, by go_num, ⟨by repeat (first | (with_reducible first | exact HB.out | apply below_alloc | apply pw_below_drewN | apply below_drew1) | exact HB.out)⟩, ⟨fun j hj h => ?_⟩⟩
          by_cases e : j = kk
          · subst e; rw [HE.out]; exact HQ1.out
          · exact HN.out j hj (by omega)
    · have hltz : ¬ (kk : Int) < (l0.length : Int) := by omega
      have hke : kk = l0.length := by omega
      have HM := Aside0.mk (idxO_miss (p := impl_areGood_1.f) (fun j hj => HN.out j hj (by omega)))
      clear hke HN
      go_wp2
      go_ret
      exact ⟨by rw [HM.out]; rfl, HB.out⟩
set_option maxHeartbeats 8000000 in
theorem impl_areGood.contains (A0 : Option Addr) (c0 : Nat) (l0 : List Nat) (w : World) (hr0 : Kd.C (Kd.scalar (Value.float .f64) (fun _ => rfl)) w A0 l0.length l0) (hc0 : l0.length ≤ c0) (r : Bool) (h : l0.any impl_areGood_1.f = r) :
    Calls Try.prog 35 #[.slice A0 l0.length c0, .func (.func 36) #[] #[]] w fun e w' => e = .returned (.bool r) ∧ Below w.heap.size w w' := by
  subst h
  rw [← idxO_nonneg]
  have hi := idxO_range impl_areGood_1.f l0
  have hl := hr0.2.1
  have HR := Aside0.mk hr0
  clear hr0
  go_enter Try.func35, Try.ntmps35
  go_wp2_with (first | (go_at_call 34; (with_reducible refine (impl_areGood.index A0 c0 l0 _ HR.out hc0).mono ?_); rintro e w' ⟨rfl, hb⟩))
  go_ret
  exact ⟨rfl, hb⟩
def impl_areGood.g (l0 : List Nat) : Bool := !(l0.any impl_areGood_1.f)
theorem impl_areGood.run (A0 : Option Addr) (c0 : Nat) (l0 : List Nat) (w : World) (hr0 : Kd.C (Kd.scalar (Value.float .f64) (fun _ => rfl)) w A0 l0.length l0) (hc0 : l0.length ≤ c0) (r : Bool) (h : impl_areGood.g l0 = r) :
    Calls Try.prog 27 #[.slice A0 l0.length c0] w fun e w' => e = .returned (.bool r) ∧ Below w.heap.size w w' := by
  subst h
  unfold impl_areGood.g
  obtain ⟨b, hb⟩ : ∃ b, l0.any impl_areGood_1.f = b := ⟨_, rfl⟩
  have HA := Aside0.mk hb
  have HR := Aside0.mk hr0
  rw [hb]
  clear hb hr0
  go_enter Try.func27, Try.ntmps27
  go_wp2_with (first | (go_at_call 35; (with_reducible refine (impl_areGood.contains A0 c0 l0 _ HR.out hc0 b HA.out).mono ?_); rintro e w' ⟨rfl, hb⟩))
  go_ret
  exact ⟨rfl, hb⟩

def impl_areGood.f (l0 : List Nat) : Option (Bool) := some (impl_areGood.g l0)
theorem impl_areGood.calls (A0 : Option Addr) (c0 : Nat) (l0 : List Nat) (r : Bool) (w : World) (hr0 : Kd.C (Kd.scalar (Value.float .f64) (fun _ => rfl)) w A0 l0.length l0) (hc0 : l0.length ≤ c0) (h : impl_areGood.f l0 = some r) :
    Calls Try.prog 27 #[.slice A0 l0.length c0] w fun e w' => e = .returned (.bool r) ∧ Below w.heap.size w w' := (impl_areGood.run A0 c0 l0 w hr0 hc0 r (Option.some.inj h)).mono (by rintro e w1 ⟨h1, hb⟩; exact ⟨h1, by first | exact hb | (obtain ⟨nd, rfl⟩ := hb; repeat (first | exact Below.refl _ _ | apply below_alloc | apply pw_below_drewN | apply below_drew1))⟩)

/-! ### impl_MeanOfPresent: function 11 -/
def impl_MeanOfPresent.f (k : Nat) (l0 : List Nat) : Option (Nat × Int × Bool) := (slices_Clone_float64_float64.f l0).bind fun t128 => ((slices_DeleteFunc_float64_float64.f t128).bind fun t131 => ((impl_sumOf.f k t131).bind fun bt134 => (if (l0.length : Int) > 64 then (some (0, 0, false)) else (if (t131.length : Int) = 0 then (some (0, 0, false)) else ((impl_areGood.f t131).bind fun t136 => (if t136 = true then (if bt134.2 = true then ((floatBits .quo .f64 bt134.1 (floatOfInt .f64 (t131.length : Int))).bind fun t137 => ((impl_plain.f t137).bind fun t138 => (some (t138, (t131.length : Int), true)))) else (some (0, 0, false))) else (some (0, 0, false))))))))
theorem impl_MeanOfPresent.mono : ∀ a0 k, LeO (impl_MeanOfPresent.f k a0) (impl_MeanOfPresent.f (k + 1) a0) := by
  intro a0 k
  unfold impl_MeanOfPresent.f
  repeat' first
      | (with_reducible exact impl_sumOf.mono _ _)
      | (with_reducible exact LeO.refl _)
      | (with_reducible exact LeO.none _)
      | (with_reducible refine LeO.ite ?_ ?_)
      | (with_reducible refine LeO.bind ?_ (fun _ => ?_))
      | exact impl_sumOf.mono _ _
      | exact LeO.none _
      | refine LeO.ite ?_ ?_
      | refine LeO.bind ?_ (fun _ => ?_)
set_option maxHeartbeats 8000000 in
set_option maxRecDepth 100000 in
theorem impl_MeanOfPresent.calls (k : Nat) (A0 : Option Addr) (c0 : Nat) (l0 : List Nat) (r1 : Nat) (r2 : Int) (r3 : Bool) (w : World) (hr0 : Kd.C (Kd.scalar (Value.float .f64) (fun _ => rfl)) w A0 l0.length l0) (hc0 : l0.length ≤ c0) (h : impl_MeanOfPresent.f k l0 = some (r1, r2, r3)) :
    Calls Try.prog 11 #[.slice A0 l0.length c0] w fun e w' => e = .returned (.tuple #[.float .f64 r1, .int .i64 r2, .bool r3]) ∧ Below w.heap.size w w' := by
  have HR0 := Aside0.mk hr0
  have HC0 := Aside0.mk hc0
  clear hr0 hc0
  have HB := Aside0.mk (Below.refl w.heap.size w)
  have H : ((slices_Clone_float64_float64.f l0).bind fun t128 => ((slices_DeleteFunc_float64_float64.f t128).bind fun t131 => ((impl_sumOf.f k t131).bind fun bt134 => (if (l0.length : Int) > 64 then (some (0, 0, false)) else (if (t131.length : Int) = 0 then (some (0, 0, false)) else ((impl_areGood.f t131).bind fun t136 => (if t136 = true then (if bt134.2 = true then ((floatBits .quo .f64 bt134.1 (floatOfInt .f64 (t131.length : Int))).bind fun t137 => ((impl_plain.f t137).bind fun t138 => (some (t138, (t131.length : Int), true)))) else (some (0, 0, false))) else (some (0, 0, false))))))))) = some (r1, r2, r3) := h
  clear h
  replace H := Option.bind_eq_some_iff.mp H
  obtain ⟨t128, A20, H⟩ := H
  replace H : ((slices_DeleteFunc_float64_float64.f t128).bind fun t131 => ((impl_sumOf.f k t131).bind fun bt134 => (if (l0.length : Int) > 64 then (some (0, 0, false)) else (if (t131.length : Int) = 0 then (some (0, 0, false)) else ((impl_areGood.f t131).bind fun t136 => (if t136 = true then (if bt134.2 = true then ((floatBits .quo .f64 bt134.1 (floatOfInt .f64 (t131.length : Int))).bind fun t137 => ((impl_plain.f t137).bind fun t138 => (some (t138, (t131.length : Int), true)))) else (some (0, 0, false))) else (some (0, 0, false)))))))) = some (r1, r2, r3) := H
  have A2 := Aside0.mk A20
  clear A20
  replace H := Option.bind_eq_some_iff.mp H
  obtain ⟨t131, A30, H⟩ := H
  replace H : ((impl_sumOf.f k t131).bind fun bt134 => (if (l0.length : Int) > 64 then (some (0, 0, false)) else (if (t131.length : Int) = 0 then (some (0, 0, false)) else ((impl_areGood.f t131).bind fun t136 => (if t136 = true then (if bt134.2 = true then ((floatBits .quo .f64 bt134.1 (floatOfInt .f64 (t131.length : Int))).bind fun t137 => ((impl_plain.f t137).bind fun t138 => (some (t138, (t131.length : Int), true)))) else (some (0, 0, false))) else (some (0, 0, false))))))) = some (r1, r2, r3) := H
  have A3 := Aside0.mk A30
  clear A30
  replace H := Option.bind_eq_some_iff.mp H
  obtain ⟨⟨t134, t135⟩, A40, H⟩ := H
  replace H : (if (l0.length : Int) > 64 then (some (0, 0, false)) else (if (t131.length : Int) = 0 then (some (0, 0, false)) else ((impl_areGood.f t131).bind fun t136 => (if t136 = true then (if t135 = true then ((floatBits .quo .f64 t134 (floatOfInt .f64 (t131.length : Int))).bind fun t137 => ((impl_plain.f t137).bind fun t138 => (some (t138, (t131.length : Int), true)))) else (some (0, 0, false))) else (some (0, 0, false)))))) = some (r1, r2, r3) := H
  have A4 := Aside0.mk A40
  clear A40
  by_cases c5 : (l0.length : Int) > 64
  · rw [if_pos c5] at H
    have c5b0 : decide (64 < (l0.length : Int)) = true := decide_eq_true c5
    have c5b1 : decide (64 < l0.length) = true := decide_eq_true (by omega)
    clear c5
    simp only [Option.some.injEq, Prod.mk.injEq] at H
    obtain ⟨rfl, rfl, rfl⟩ := H
    go_enter Try.func11, Try.ntmps11
    go_wp2_with (first | ((with_reducible refine gate_callee (f := 25) rfl ?_); refine goesL_ (some 9) rfl rfl Try.func25 (by kernel_rfl) rfl #[.slice A0 l0.length c0] rfl (by (try simp only [List.map_toArray, List.map_cons, List.map_nil]); first | done | rfl | (simp only [List.length_drop, List.length_take]; rfl)) ?_; (with_reducible refine (slices_Clone_float64_float64.calls _ _ l0 t128 _ ?side1 ?side2 A2.out).mono ?_); (case side1 => repeat (first | exact HR0.out | (with_reducible refine Kd.C_alloc ?_ _) | (with_reducible refine Kd.C_drewN ?_ _) | (with_reducible refine Kd.C_drew ?_))); (case side2 => exact HC0.out); rintro e w6 ⟨v129, rfl, ho0, hb⟩; refine ⟨_, rfl, ?_⟩; have n0_ := Aside0.mk (Kd.R_lower ho0 (below_size (by repeat (first | (with_reducible first | exact HB.out | apply below_alloc | apply pw_below_drewN | apply below_drew1) | exact HB.out)))); have n1_ := Aside0.mk (below_step (by repeat (first | (with_reducible first | exact HB.out | apply below_alloc | apply pw_below_drewN | apply below_drew1) | exact HB.out)) hb); clear HB; have HO130 := n0_; have HB := n1_; clear n0_ n1_; (try clear hb); (try clear hb2); (try clear hk); (try clear hi); (try clear ho0); obtain ⟨Ao7, co7, eo7⟩ := Kd.R_slice HO130.out; subst eo7) | ((with_reducible refine gate_callee (f := 24) rfl ?_); refine goesL_ (some 10) rfl rfl Try.func24 (by kernel_rfl) rfl #[.slice Ao7 t128.length co7, .func (.func _) #[] #[]] rfl (by (try simp only [List.map_toArray, List.map_cons, List.map_nil]); first | done | rfl | (simp only [List.length_drop, List.length_take]; rfl)) ?_; refine (slices_DeleteFunc_float64_float64.real _ t128 w _ (by repeat (first | (with_reducible first | exact HB.out | apply below_alloc | apply pw_below_drewN | apply below_drew1) | exact HB.out)) (by (with_reducible repeat (first | apply Kd.R_alloc | apply Kd.R_drewN | apply Kd.R_drew)); exact HO130.out)).mono ?_; rintro e w8 ⟨v132, rfl, ho0, hb⟩; rw [show List.filter slices_DeleteFunc_float64_float64.keep t128 = t131 from Option.some.inj A3.out] at ho0; refine ⟨_, rfl, ?_⟩; clear HO130; clear HB; have HO130 := Aside0.mk (Kd.R_nil (Kd.int .i64) 3 w8 w.heap.size (fun _ => True)); have HO133 := Aside0.mk ho0; have HB := Aside0.mk hb; (try clear hb); (try clear hb2); (try clear hk); (try clear hi); (try clear ho0); obtain ⟨Ao9, co9, eo9⟩ := Kd.R_slice HO133.out; subst eo9) | ((with_reducible refine gate_callee (f := 26) rfl ?_); refine goesL_ (some 13) rfl rfl Try.func26 (by kernel_rfl) rfl #[.slice Ao9 t131.length co9] rfl (by (try simp only [List.map_toArray, List.map_cons, List.map_nil]); first | done | rfl | (simp only [List.length_drop, List.length_take]; rfl)) ?_; (with_reducible refine (impl_sumOf.calls k _ _ t131 t134 t135 _ ?side1 ?side2 A4.out).mono ?_); (case side1 => repeat (first | exact (Kd.R_reads' HO133.out).2.2 | (with_reducible refine Kd.C_alloc ?_ _) | (with_reducible refine Kd.C_drewN ?_ _) | (with_reducible refine Kd.C_drew ?_))); (case side2 => exact (Kd.R_reads' HO133.out).2.1); rintro e w10 ⟨rfl, hb⟩; refine ⟨_, rfl, ?_⟩; have n0_ := Aside0.mk (Kd.R_below (by (with_reducible repeat (first | apply Kd.R_alloc | apply Kd.R_drewN | apply Kd.R_drew)); exact HO130.out) hb); have n1_ := Aside0.mk (Kd.R_below (by (with_reducible repeat (first | apply Kd.R_alloc | apply Kd.R_drewN | apply Kd.R_drew)); exact HO133.out) hb); have n2_ := Aside0.mk (below_step (by repeat (first | (with_reducible first | exact HB.out | apply below_alloc | apply pw_below_drewN | apply below_drew1) | exact HB.out)) hb); clear HO130; clear HO133; clear HB; have HO130 := n0_; have HO133 := n1_; have HB := n2_; clear n0_ n1_ n2_; (try clear hb); (try clear hb2); (try clear hk); (try clear hi)))
    go_ret3
    exact ⟨by first | rfl | (simp [errW_none, errW_some] <;> rfl) | (simp [*, errW_none, errW_some] <;> rfl), by repeat (first | (with_reducible first | exact HB.out | apply below_alloc | apply pw_below_drewN | apply below_drew1) | exact HB.out)⟩
  · rw [if_neg c5] at H
    have c5b0 : decide (64 < (l0.length : Int)) = false := decide_eq_false c5
    have c5b1 : decide (64 < l0.length) = false := decide_eq_false (by omega)
    clear c5
    by_cases c11 : (t131.length : Int) = 0
    · rw [if_pos c11] at H
      have c11b0 : ((t131.length : Int) == 0) = true := beq_iff_eq.mpr c11
      have c11b1 : ((t131.length : Int) != 0) = false := bne_eq_false_iff_eq.mpr c11
      clear c11
      simp only [Option.some.injEq, Prod.mk.injEq] at H
      obtain ⟨rfl, rfl, rfl⟩ := H
      go_enter Try.func11, Try.ntmps11
      go_wp2_with (first | ((with_reducible refine gate_callee (f := 25) rfl ?_); refine goesL_ (some 9) rfl rfl Try.func25 (by kernel_rfl) rfl #[.slice A0 l0.length c0] rfl (by (try simp only [List.map_toArray, List.map_cons, List.map_nil]); first | done | rfl | (simp only [List.length_drop, List.length_take]; rfl)) ?_; (with_reducible refine (slices_Clone_float64_float64.calls _ _ l0 t128 _ ?side1 ?side2 A2.out).mono ?_); (case side1 => repeat (first | exact HR0.out | (with_reducible refine Kd.C_alloc ?_ _) | (with_reducible refine Kd.C_drewN ?_ _) | (with_reducible refine Kd.C_drew ?_))); (case side2 => exact HC0.out); rintro e w12 ⟨v129, rfl, ho0, hb⟩; refine ⟨_, rfl, ?_⟩; have n0_ := Aside0.mk (Kd.R_lower ho0 (below_size (by repeat (first | (with_reducible first | exact HB.out | apply below_alloc | apply pw_below_drewN | apply below_drew1) | exact HB.out)))); have n1_ := Aside0.mk (below_step (by repeat (first | (with_reducible first | exact HB.out | apply below_alloc | apply pw_below_drewN | apply below_drew1) | exact HB.out)) hb); clear HB; have HO130 := n0_; have HB := n1_; clear n0_ n1_; (try clear hb); (try clear hb2); (try clear hk); (try clear hi); (try clear ho0); obtain ⟨Ao13, co13, eo13⟩ := Kd.R_slice HO130.out; subst eo13) | ((with_reducible refine gate_callee (f := 24) rfl ?_); refine goesL_ (some 10) rfl rfl Try.func24 (by kernel_rfl) rfl #[.slice Ao13 t128.length co13, .func (.func _) #[] #[]] rfl (by (try simp only [List.map_toArray, List.map_cons, List.map_nil]); first | done | rfl | (simp only [List.length_drop, List.length_take]; rfl)) ?_; refine (slices_DeleteFunc_float64_float64.real _ t128 w _ (by repeat (first | (with_reducible first | exact HB.out | apply below_alloc | apply pw_below_drewN | apply below_drew1) | exact HB.out)) (by (with_reducible repeat (first | apply Kd.R_alloc | apply Kd.R_drewN | apply Kd.R_drew)); exact HO130.out)).mono ?_; rintro e w14 ⟨v132, rfl, ho0, hb⟩; rw [show List.filter slices_DeleteFunc_float64_float64.keep t128 = t131 from Option.some.inj A3.out] at ho0; refine ⟨_, rfl, ?_⟩; clear HO130; clear HB; have HO130 := Aside0.mk (Kd.R_nil (Kd.int .i64) 3 w14 w.heap.size (fun _ => True)); have HO133 := Aside0.mk ho0; have HB := Aside0.mk hb; (try clear hb); (try clear hb2); (try clear hk); (try clear hi); (try clear ho0); obtain ⟨Ao15, co15, eo15⟩ := Kd.R_slice HO133.out; subst eo15) | ((with_reducible refine gate_callee (f := 26) rfl ?_); refine goesL_ (some 13) rfl rfl Try.func26 (by kernel_rfl) rfl #[.slice Ao15 t131.length co15] rfl (by (try simp only [List.map_toArray, List.map_cons, List.map_nil]); first | done | rfl | (simp only [List.length_drop, List.length_take]; rfl)) ?_; (with_reducible refine (impl_sumOf.calls k _ _ t131 t134 t135 _ ?side1 ?side2 A4.out).mono ?_); (case side1 => repeat (first | exact (Kd.R_reads' HO133.out).2.2 | (with_reducible refine Kd.C_alloc ?_ _) | (with_reducible refine Kd.C_drewN ?_ _) | (with_reducible refine Kd.C_drew ?_))); (case side2 => exact (Kd.R_reads' HO133.out).2.1); rintro e w16 ⟨rfl, hb⟩; refine ⟨_, rfl, ?_⟩; have n0_ := Aside0.mk (Kd.R_below (by (with_reducible repeat (first | apply Kd.R_alloc | apply Kd.R_drewN | apply Kd.R_drew)); exact HO130.out) hb); have n1_ := Aside0.mk (Kd.R_below (by (with_reducible repeat (first | apply Kd.R_alloc | apply Kd.R_drewN | apply Kd.R_drew)); exact HO133.out) hb); have n2_ := Aside0.mk (below_step (by repeat (first | (with_reducible first | exact HB.out | apply below_alloc | apply pw_below_drewN | apply below_drew1) | exact HB.out)) hb); clear HO130; clear HO133; clear HB; have HO130 := n0_; have HO133 := n1_; have HB := n2_; clear n0_ n1_ n2_; (try clear hb); (try clear hb2); (try clear hk); (try clear hi)))
      go_ret3
      exact ⟨by first | rfl | (simp [errW_none, errW_some] <;> rfl) | (simp [*, errW_none, errW_some] <;> rfl), by repeat (first | (with_reducible first | exact HB.out | apply below_alloc | apply pw_below_drewN | apply below_drew1) | exact HB.out)⟩
    · rw [if_neg c11] at H
      have c11b0 : ((t131.length : Int) == 0) = false := beq_eq_false_iff_ne.mpr c11
      have c11b1 : ((t131.length : Int) != 0) = true := bne_iff_ne.mpr c11
      have c11b2 : ¬ (t131 = []) := fun h_ => c11 (by rw [h_]; rfl)
      replace H := Option.bind_eq_some_iff.mp H
      obtain ⟨t136, A170, H⟩ := H
      replace H : (if t136 = true then (if t135 = true then ((floatBits .quo .f64 t134 (floatOfInt .f64 (t131.length : Int))).bind fun t137 => ((impl_plain.f t137).bind fun t138 => (some (t138, (t131.length : Int), true)))) else (some (0, 0, false))) else (some (0, 0, false))) = some (r1, r2, r3) := H
      have A17 := Aside0.mk A170
      clear A170
      by_cases c18 : t136 = true
      · subst c18
        have H1 : (if t135 = true then ((floatBits .quo .f64 t134 (floatOfInt .f64 (t131.length : Int))).bind fun t137 => ((impl_plain.f t137).bind fun t138 => (some (t138, (t131.length : Int), true)))) else (some (0, 0, false))) = some (r1, r2, r3) := by rw [if_pos rfl] at H; exact H
        clear H
        have H := H1
        clear H1
        by_cases c19 : t135 = true
        · subst c19
          have H1 : ((floatBits .quo .f64 t134 (floatOfInt .f64 (t131.length : Int))).bind fun t137 => ((impl_plain.f t137).bind fun t138 => (some (t138, (t131.length : Int), true)))) = some (r1, r2, r3) := by rw [if_pos rfl] at H; exact H
          clear H
          have H := H1
          clear H1
          replace H := Option.bind_eq_some_iff.mp H
          obtain ⟨t137, A200, H⟩ := H
          replace H : ((impl_plain.f t137).bind fun t138 => (some (t138, (t131.length : Int), true))) = some (r1, r2, r3) := H
          have hfA20 := fun w => run_float_arith (P := Try.prog) w .quo 22 .f64 t134 (floatOfInt .f64 (t131.length : Int)) t137 A200
          clear A200
          replace H := Option.bind_eq_some_iff.mp H
          obtain ⟨t138, A210, H⟩ := H
          replace H : (some (t138, (t131.length : Int), true)) = some (r1, r2, r3) := H
          have A21 := Aside0.mk A210
          clear A210
          simp only [Option.some.injEq, Prod.mk.injEq] at H
          obtain ⟨rfl, rfl, rfl⟩ := H
          go_enter Try.func11, Try.ntmps11
          go_wp2_with (first | ((with_reducible refine gate_callee (f := 25) rfl ?_); refine goesL_ (some 9) rfl rfl Try.func25 (by kernel_rfl) rfl #[.slice A0 l0.length c0] rfl (by (try simp only [List.map_toArray, List.map_cons, List.map_nil]); first | done | rfl | (simp only [List.length_drop, List.length_take]; rfl)) ?_; (with_reducible refine (slices_Clone_float64_float64.calls _ _ l0 t128 _ ?side1 ?side2 A2.out).mono ?_); (case side1 => repeat (first | exact HR0.out | (with_reducible refine Kd.C_alloc ?_ _) | (with_reducible refine Kd.C_drewN ?_ _) | (with_reducible refine Kd.C_drew ?_))); (case side2 => exact HC0.out); rintro e w22 ⟨v129, rfl, ho0, hb⟩; refine ⟨_, rfl, ?_⟩; have n0_ := Aside0.mk (Kd.R_lower ho0 (below_size (by repeat (first | (with_reducible first | exact HB.out | apply below_alloc | apply pw_below_drewN | apply below_drew1) | exact HB.out)))); have n1_ := Aside0.mk (below_step (by repeat (first | (with_reducible first | exact HB.out | apply below_alloc | apply pw_below_drewN | apply below_drew1) | exact HB.out)) hb); clear HB; have HO130 := n0_; have HB := n1_; clear n0_ n1_; (try clear hb); (try clear hb2); (try clear hk); (try clear hi); (try clear ho0); obtain ⟨Ao23, co23, eo23⟩ := Kd.R_slice HO130.out; subst eo23) | ((with_reducible refine gate_callee (f := 24) rfl ?_); refine goesL_ (some 10) rfl rfl Try.func24 (by kernel_rfl) rfl #[.slice Ao23 t128.length co23, .func (.func _) #[] #[]] rfl (by (try simp only [List.map_toArray, List.map_cons, List.map_nil]); first | done | rfl | (simp only [List.length_drop, List.length_take]; rfl)) ?_; refine (slices_DeleteFunc_float64_float64.real _ t128 w _ (by repeat (first | (with_reducible first | exact HB.out | apply below_alloc | apply pw_below_drewN | apply below_drew1) | exact HB.out)) (by (with_reducible repeat (first | apply Kd.R_alloc | apply Kd.R_drewN | apply Kd.R_drew)); exact HO130.out)).mono ?_; rintro e w24 ⟨v132, rfl, ho0, hb⟩; rw [show List.filter slices_DeleteFunc_float64_float64.keep t128 = t131 from Option.some.inj A3.out] at ho0; refine ⟨_, rfl, ?_⟩; clear HO130; clear HB; have HO130 := Aside0.mk (Kd.R_nil (Kd.int .i64) 3 w24 w.heap.size (fun _ => True)); have HO133 := Aside0.mk ho0; have HB := Aside0.mk hb; (try clear hb); (try clear hb2); (try clear hk); (try clear hi); (try clear ho0); obtain ⟨Ao25, co25, eo25⟩ := Kd.R_slice HO133.out; subst eo25) | ((with_reducible refine gate_callee (f := 26) rfl ?_); refine goesL_ (some 13) rfl rfl Try.func26 (by kernel_rfl) rfl #[.slice Ao25 t131.length co25] rfl (by (try simp only [List.map_toArray, List.map_cons, List.map_nil]); first | done | rfl | (simp only [List.length_drop, List.length_take]; rfl)) ?_; (with_reducible refine (impl_sumOf.calls k _ _ t131 t134 true _ ?side1 ?side2 A4.out).mono ?_); (case side1 => repeat (first | exact (Kd.R_reads' HO133.out).2.2 | (with_reducible refine Kd.C_alloc ?_ _) | (with_reducible refine Kd.C_drewN ?_ _) | (with_reducible refine Kd.C_drew ?_))); (case side2 => exact (Kd.R_reads' HO133.out).2.1); rintro e w26 ⟨rfl, hb⟩; refine ⟨_, rfl, ?_⟩; have n0_ := Aside0.mk (Kd.R_below (by (with_reducible repeat (first | apply Kd.R_alloc | apply Kd.R_drewN | apply Kd.R_drew)); exact HO130.out) hb); have n1_ := Aside0.mk (Kd.R_below (by (with_reducible repeat (first | apply Kd.R_alloc | apply Kd.R_drewN | apply Kd.R_drew)); exact HO133.out) hb); have n2_ := Aside0.mk (below_step (by repeat (first | (with_reducible first | exact HB.out | apply below_alloc | apply pw_below_drewN | apply below_drew1) | exact HB.out)) hb); clear HO130; clear HO133; clear HB; have HO130 := n0_; have HO133 := n1_; have HB := n2_; clear n0_ n1_ n2_; (try clear hb); (try clear hb2); (try clear hk); (try clear hi)) | (go_at_call 27; (with_reducible refine (impl_areGood.calls _ _ t131 true _ ?side1 ?side2 A17.out).mono ?_); (case side1 => repeat (first | exact (Kd.R_reads' HO133.out).2.2 | (with_reducible refine Kd.C_alloc ?_ _) | (with_reducible refine Kd.C_drewN ?_ _) | (with_reducible refine Kd.C_drew ?_))); (case side2 => exact (Kd.R_reads' HO133.out).2.1); rintro e w27 ⟨rfl, hb⟩; have n0_ := Aside0.mk (Kd.R_below (by (with_reducible repeat (first | apply Kd.R_alloc | apply Kd.R_drewN | apply Kd.R_drew)); exact HO130.out) hb); have n1_ := Aside0.mk (Kd.R_below (by (with_reducible repeat (first | apply Kd.R_alloc | apply Kd.R_drewN | apply Kd.R_drew)); exact HO133.out) hb); have n2_ := Aside0.mk (below_step (by repeat (first | (with_reducible first | exact HB.out | apply below_alloc | apply pw_below_drewN | apply below_drew1) | exact HB.out)) hb); clear HO130; clear HO133; clear HB; have HO130 := n0_; have HO133 := n1_; have HB := n2_; clear n0_ n1_ n2_; (try clear hb); (try clear hb2); (try clear hk); (try clear hi)) | ((with_reducible refine gate_callee (f := 28) rfl ?_); refine goesL_ (some 38) rfl rfl Try.func28 (by kernel_rfl) rfl #[.float .f64 t137] rfl (by (try simp only [List.map_toArray, List.map_cons, List.map_nil]); first | done | rfl | (simp only [List.length_drop, List.length_take]; rfl)) ?_; (with_reducible refine (impl_plain.calls t137 t138 _ A21.out).mono ?_); rintro e w28 ⟨rfl, hb⟩; refine ⟨_, rfl, ?_⟩; have n0_ := Aside0.mk (Kd.R_below (by (with_reducible repeat (first | apply Kd.R_alloc | apply Kd.R_drewN | apply Kd.R_drew)); exact HO130.out) hb); have n1_ := Aside0.mk (Kd.R_below (by (with_reducible repeat (first | apply Kd.R_alloc | apply Kd.R_drewN | apply Kd.R_drew)); exact HO133.out) hb); have n2_ := Aside0.mk (below_step (by repeat (first | (with_reducible first | exact HB.out | apply below_alloc | apply pw_below_drewN | apply below_drew1) | exact HB.out)) hb); clear HO130; clear HO133; clear HB; have HO130 := n0_; have HO133 := n1_; have HB := n2_; clear n0_ n1_ n2_; (try clear hb); (try clear hb2); (try clear hk); (try clear hi)))
          go_ret3
          exact ⟨by first | rfl | (simp [errW_none, errW_some] <;> rfl) | (simp [*, errW_none, errW_some] <;> rfl), by repeat (first | (with_reducible first | exact HB.out | apply below_alloc | apply pw_below_drewN | apply below_drew1) | exact HB.out)⟩
        · replace c19 := Bool.eq_false_iff.mpr c19
          subst c19
          have H1 : (some (0, 0, false)) = some (r1, r2, r3) := by rw [if_neg (show ¬ (false = true) by decide)] at H; exact H
          clear H
          have H := H1
          clear H1
          simp only [Option.some.injEq, Prod.mk.injEq] at H
          obtain ⟨rfl, rfl, rfl⟩ := H
          go_enter Try.func11, Try.ntmps11
          go_wp2_with (first | ((with_reducible refine gate_callee (f := 25) rfl ?_); refine goesL_ (some 9) rfl rfl Try.func25 (by kernel_rfl) rfl #[.slice A0 l0.length c0] rfl (by (try simp only [List.map_toArray, List.map_cons, List.map_nil]); first | done | rfl | (simp only [List.length_drop, List.length_take]; rfl)) ?_; (with_reducible refine (slices_Clone_float64_float64.calls _ _ l0 t128 _ ?side1 ?side2 A2.out).mono ?_); (case side1 => repeat (first | exact HR0.out | (with_reducible refine Kd.C_alloc ?_ _) | (with_reducible refine Kd.C_drewN ?_ _) | (with_reducible refine Kd.C_drew ?_))); (case side2 => exact HC0.out); rintro e w29 ⟨v129, rfl, ho0, hb⟩; refine ⟨_, rfl, ?_⟩; have n0_ := Aside0.mk (Kd.R_lower ho0 (below_size (by repeat (first | (with_reducible first | exact HB.out | apply below_alloc | apply pw_below_drewN | apply below_drew1) | exact HB.out)))); have n1_ := Aside0.mk (below_step (by repeat (first | (with_reducible first | exact HB.out | apply below_alloc | apply pw_below_drewN | apply below_drew1) | exact HB.out)) hb); clear HB; have HO130 := n0_; have HB := n1_; clear n0_ n1_; (try clear hb); (try clear hb2); (try clear hk); (try clear hi); (try clear ho0); obtain ⟨Ao30, co30, eo30⟩ := Kd.R_slice HO130.out; subst eo30) | ((with_reducible refine gate_callee (f := 24) rfl ?_); refine goesL_ (some 10) rfl rfl Try.func24 (by kernel_rfl) rfl #[.slice Ao30 t128.length co30, .func (.func _) #[] #[]] rfl (by (try simp only [List.map_toArray, List.map_cons, List.map_nil]); first | done | rfl | (simp only [List.length_drop, List.length_take]; rfl)) ?_; refine (slices_DeleteFunc_float64_float64.real _ t128 w _ (by repeat (first | (with_reducible first | exact HB.out | apply below_alloc | apply pw_below_drewN | apply below_drew1) | exact HB.out)) (by (with_reducible repeat (first | apply Kd.R_alloc | apply Kd.R_drewN | apply Kd.R_drew)); exact HO130.out)).mono ?_; rintro e w31 ⟨v132, rfl, ho0, hb⟩; rw [show List.filter slices_DeleteFunc_float64_float64.keep t128 = t131 from Option.some.inj A3.out] at ho0; refine ⟨_, rfl, ?_⟩; clear HO130; clear HB; have HO130 := Aside0.mk (Kd.R_nil (Kd.int .i64) 3 w31 w.heap.size (fun _ => True)); have HO133 := Aside0.mk ho0; have HB := Aside0.mk hb; (try clear hb); (try clear hb2); (try clear hk); (try clear hi); (try clear ho0); obtain ⟨Ao32, co32, eo32⟩ := Kd.R_slice HO133.out; subst eo32) | ((with_reducible refine gate_callee (f := 26) rfl ?_); refine goesL_ (some 13) rfl rfl Try.func26 (by kernel_rfl) rfl #[.slice Ao32 t131.length co32] rfl (by (try simp only [List.map_toArray, List.map_cons, List.map_nil]); first | done | rfl | (simp only [List.length_drop, List.length_take]; rfl)) ?_; (with_reducible refine (impl_sumOf.calls k _ _ t131 t134 false _ ?side1 ?side2 A4.out).mono ?_); (case side1 => repeat (first | exact (Kd.R_reads' HO133.out).2.2 | (with_reducible refine Kd.C_alloc ?_ _) | (with_reducible refine Kd.C_drewN ?_ _) | (with_reducible refine Kd.C_drew ?_))); (case side2 => exact (Kd.R_reads' HO133.out).2.1); rintro e w33 ⟨rfl, hb⟩; refine ⟨_, rfl, ?_⟩; have n0_ := Aside0.mk (Kd.R_below (by (with_reducible repeat (first | apply Kd.R_alloc | apply Kd.R_drewN | apply Kd.R_drew)); exact HO130.out) hb); have n1_ := Aside0.mk (Kd.R_below (by (with_reducible repeat (first | apply Kd.R_alloc | apply Kd.R_drewN | apply Kd.R_drew)); exact HO133.out) hb); have n2_ := Aside0.mk (below_step (by repeat (first | (with_reducible first | exact HB.out | apply below_alloc | apply pw_below_drewN | apply below_drew1) | exact HB.out)) hb); clear HO130; clear HO133; clear HB; have HO130 := n0_; have HO133 := n1_; have HB := n2_; clear n0_ n1_ n2_; (try clear hb); (try clear hb2); (try clear hk); (try clear hi)) | (go_at_call 27; (with_reducible refine (impl_areGood.calls _ _ t131 true _ ?side1 ?side2 A17.out).mono ?_); (case side1 => repeat (first | exact (Kd.R_reads' HO133.out).2.2 | (with_reducible refine Kd.C_alloc ?_ _) | (with_reducible refine Kd.C_drewN ?_ _) | (with_reducible refine Kd.C_drew ?_))); (case side2 => exact (Kd.R_reads' HO133.out).2.1); rintro e w34 ⟨rfl, hb⟩; have n0_ := Aside0.mk (Kd.R_below (by (with_reducible repeat (first | apply Kd.R_alloc | apply Kd.R_drewN | apply Kd.R_drew)); exact HO130.out) hb); have n1_ := Aside0.mk (Kd.R_below (by (with_reducible repeat (first | apply Kd.R_alloc | apply Kd.R_drewN | apply Kd.R_drew)); exact HO133.out) hb); have n2_ := Aside0.mk (below_step (by repeat (first | (with_reducible first | exact HB.out | apply below_alloc | apply pw_below_drewN | apply below_drew1) | exact HB.out)) hb); clear HO130; clear HO133; clear HB; have HO130 := n0_; have HO133 := n1_; have HB := n2_; clear n0_ n1_ n2_; (try clear hb); (try clear hb2); (try clear hk); (try clear hi)))
          go_ret3
          exact ⟨by first | rfl | (simp [errW_none, errW_some] <;> rfl) | (simp [*, errW_none, errW_some] <;> rfl), by repeat (first | (with_reducible first | exact HB.out | apply below_alloc | apply pw_below_drewN | apply below_drew1) | exact HB.out)⟩
      · replace c18 := Bool.eq_false_iff.mpr c18
        subst c18
        have H1 : (some (0, 0, false)) = some (r1, r2, r3) := by rw [if_neg (show ¬ (false = true) by decide)] at H; exact H
        clear H
        have H := H1
        clear H1
        simp only [Option.some.injEq, Prod.mk.injEq] at H
        obtain ⟨rfl, rfl, rfl⟩ := H
        go_enter Try.func11, Try.ntmps11
        go_wp2_with (first | ((with_reducible refine gate_callee (f := 25) rfl ?_); refine goesL_ (some 9) rfl rfl Try.func25 (by kernel_rfl) rfl #[.slice A0 l0.length c0] rfl (by (try simp only [List.map_toArray, List.map_cons, List.map_nil]); first | done | rfl | (simp only [List.length_drop, List.length_take]; rfl)) ?_; (with_reducible refine (slices_Clone_float64_float64.calls _ _ l0 t128 _ ?side1 ?side2 A2.out).mono ?_); (case side1 => repeat (first | exact HR0.out | (with_reducible refine Kd.C_alloc ?_ _) | (with_reducible refine Kd.C_drewN ?_ _) | (with_reducible refine Kd.C_drew ?_))); (case side2 => exact HC0.out); rintro e w35 ⟨v129, rfl, ho0, hb⟩; refine ⟨_, rfl, ?_⟩; have n0_ := Aside0.mk (Kd.R_lower ho0 (below_size (by repeat (first | (with_reducible first | exact HB.out | apply below_alloc | apply pw_below_drewN | apply below_drew1) | exact HB.out)))); have n1_ := Aside0.mk (below_step (by repeat (first | (with_reducible first | exact HB.out | apply below_alloc | apply pw_below_drewN | apply below_drew1) | exact HB.out)) hb); clear HB; have HO130 := n0_; have HB := n1_; clear n0_ n1_; (try clear hb); (try clear hb2); (try clear hk); (try clear hi); (try clear ho0); obtain ⟨Ao36, co36, eo36⟩ := Kd.R_slice HO130.out; subst eo36) | ((with_reducible refine gate_callee (f := 24) rfl ?_); refine goesL_ (some 10) rfl rfl Try.func24 (by kernel_rfl) rfl #[.slice Ao36 t128.length co36, .func (.func _) #[] #[]] rfl (by (try simp only [List.map_toArray, List.map_cons, List.map_nil]); first | done | rfl | (simp only [List.length_drop, List.length_take]; rfl)) ?_; refine (slices_DeleteFunc_float64_float64.real _ t128 w _ (by repeat (first | (with_reducible first | exact HB.out | apply below_alloc | apply pw_below_drewN | apply below_drew1) | exact HB.out)) (by (with_reducible repeat (first | apply Kd.R_alloc | apply Kd.R_drewN | apply Kd.R_drew)); exact HO130.out)).mono ?_; rintro e w37 ⟨v132, rfl, ho0, hb⟩; rw [show List.filter slices_DeleteFunc_float64_float64.keep t128 = t131 from Option.some.inj A3.out] at ho0; refine ⟨_, rfl, ?_⟩; clear HO130; clear HB; have HO130 := Aside0.mk (Kd.R_nil (Kd.int .i64) 3 w37 w.heap.size (fun _ => True)); have HO133 := Aside0.mk ho0; have HB := Aside0.mk hb; (try clear hb); (try clear hb2); (try clear hk); (try clear hi); (try clear ho0); obtain ⟨Ao38, co38, eo38⟩ := Kd.R_slice HO133.out; subst eo38) | ((with_reducible refine gate_callee (f := 26) rfl ?_); refine goesL_ (some 13) rfl rfl Try.func26 (by kernel_rfl) rfl #[.slice Ao38 t131.length co38] rfl (by (try simp only [List.map_toArray, List.map_cons, List.map_nil]); first | done | rfl | (simp only [List.length_drop, List.length_take]; rfl)) ?_; (with_reducible refine (impl_sumOf.calls k _ _ t131 t134 t135 _ ?side1 ?side2 A4.out).mono ?_); (case side1 => repeat (first | exact (Kd.R_reads' HO133.out).2.2 | (with_reducible refine Kd.C_alloc ?_ _) | (with_reducible refine Kd.C_drewN ?_ _) | (with_reducible refine Kd.C_drew ?_))); (case side2 => exact (Kd.R_reads' HO133.out).2.1); rintro e w39 ⟨rfl, hb⟩; refine ⟨_, rfl, ?_⟩; have n0_ := Aside0.mk (Kd.R_below (by (with_reducible repeat (first | apply Kd.R_alloc | apply Kd.R_drewN | apply Kd.R_drew)); exact HO130.out) hb); have n1_ := Aside0.mk (Kd.R_below (by (with_reducible repeat (first | apply Kd.R_alloc | apply Kd.R_drewN | apply Kd.R_drew)); exact HO133.out) hb); have n2_ := Aside0.mk (below_step (by repeat (first | (with_reducible first | exact HB.out | apply below_alloc | apply pw_below_drewN | apply below_drew1) | exact HB.out)) hb); clear HO130; clear HO133; clear HB; have HO130 := n0_; have HO133 := n1_; have HB := n2_; clear n0_ n1_ n2_; (try clear hb); (try clear hb2); (try clear hk); (try clear hi)) | (go_at_call 27; (with_reducible refine (impl_areGood.calls _ _ t131 false _ ?side1 ?side2 A17.out).mono ?_); (case side1 => repeat (first | exact (Kd.R_reads' HO133.out).2.2 | (with_reducible refine Kd.C_alloc ?_ _) | (with_reducible refine Kd.C_drewN ?_ _) | (with_reducible refine Kd.C_drew ?_))); (case side2 => exact (Kd.R_reads' HO133.out).2.1); rintro e w40 ⟨rfl, hb⟩; have n0_ := Aside0.mk (Kd.R_below (by (with_reducible repeat (first | apply Kd.R_alloc | apply Kd.R_drewN | apply Kd.R_drew)); exact HO130.out) hb); have n1_ := Aside0.mk (Kd.R_below (by (with_reducible repeat (first | apply Kd.R_alloc | apply Kd.R_drewN | apply Kd.R_drew)); exact HO133.out) hb); have n2_ := Aside0.mk (below_step (by repeat (first | (with_reducible first | exact HB.out | apply below_alloc | apply pw_below_drewN | apply below_drew1) | exact HB.out)) hb); clear HO130; clear HO133; clear HB; have HO130 := n0_; have HO133 := n1_; have HB := n2_; clear n0_ n1_ n2_; (try clear hb); (try clear hb2); (try clear hk); (try clear hi)))
        go_ret3
        exact ⟨by first | rfl | (simp [errW_none, errW_some] <;> rfl) | (simp [*, errW_none, errW_some] <;> rfl), by repeat (first | (with_reducible first | exact HB.out | apply below_alloc | apply pw_below_drewN | apply below_drew1) | exact HB.out)⟩


/-! ### laws_sameFloat: function 12 -/
theorem laws_sameFloat.quo {a : Nat} (h : (FloatKind.f64.format.order a 0 == some .eq) = true) : ∃ q, floatBits .quo .f64 4607182418800017408 a = some q := by
  have h' : (Ieee.double.read a).order (Ieee.double.read 0) = some .eq := beq_iff_eq.mp h
  have e1 : Ieee.double.read 4607182418800017408 = .number false 4503599627370496 (-52) := by decide +kernel
  show ∃ q, Ieee.Format.div Ieee.double 4607182418800017408 a = some q
  unfold Ieee.Format.div
  rw [e1]
  cases ha : Ieee.double.read a with
  | nan s t => rw [ha] at h'; simp [Ieee.Datum.order] at h'
  | infinity s => exact ⟨_, rfl⟩
  | number s m e =>
    unfold Ieee.Datum.quotient
    by_cases hm : m = 0
    · simp [hm]
    · simp [hm]
/-- Two floats are the same: said of a float beside itself. -/
def laws_sameFloat.f (a b : Nat) : Option Bool := if a = b then some true else none
set_option maxHeartbeats 8000000 in
theorem laws_sameFloat.calls (a b : Nat) (r : Bool) (w : World) (h : laws_sameFloat.f a b = some r) :
    Calls Try.prog 12 #[.float .f64 a, .float .f64 b] w fun e w' => e = .returned (.bool r) ∧ Below w.heap.size w w' := by
  unfold laws_sameFloat.f at h
  split at h
  case isFalse => cases h
  case isTrue hc =>
    subst hc
    obtain rfl : true = r := Option.some.inj h
    clear h
    cases ho : (FloatKind.f64.format.order a a == some .eq) with
    | false =>
      have ho2 : (FloatKind.f64.format.order a a != some .eq) = true := by rw [bne, ho]; rfl
      go_enter Try.func12, Try.ntmps12
      go_wp2
      go_ret
      exact ⟨by first | rfl | (simp; done), by repeat (first | exact Below.refl _ _ | apply below_alloc | apply pw_below_drewN | apply below_drew1)⟩
    | true =>
      have ho2 : (FloatKind.f64.format.order a a != some .eq) = false := by rw [bne, ho]; rfl
      cases hz : (FloatKind.f64.format.order a 0 == some .eq)
      · go_enter Try.func12, Try.ntmps12
        go_wp2
        go_ret
        exact ⟨by first | rfl | (simp; done), by repeat (first | exact Below.refl _ _ | apply below_alloc | apply pw_below_drewN | apply below_drew1)⟩
      · obtain ⟨q, hq⟩ := laws_sameFloat.quo hz
        have hd := fun w => run_float_arith (P := Try.prog) w .quo 22 .f64 4607182418800017408 a q hq
        clear hq
        cases hg : (FloatKind.f64.format.order q 0 == some .gt)
        all_goals
          go_enter Try.func12, Try.ntmps12
          go_wp2
          go_ret
          exact ⟨by first | rfl | (simp; done), by repeat (first | exact Below.refl _ _ | apply below_alloc | apply pw_below_drewN | apply below_drew1)⟩

end Go.Proofs.Ythpnlldadpcmnaa.PFnExactMeanOfPresent
