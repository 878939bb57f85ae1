/- The machine's side of a law, function by function: a Lean function with the Go function's answers and the proof that the Go code comes to them. No condition. Written by this session's program over the kit's print, this session's own contracts set in. -/
import Derived.Test.YtijmnkfmkpejmaaPFnExactOfShortx0
namespace Go.Proofs.Ytijmnkfmkpejmaa.PFnExactOfShort
open Go.RowKit Go.Proofs.YtijmnkfmkpejmaaW.PrintWords Go.Proofs.YtijmnkfmkpejmaaW.PrintLast Go.Proofs.YtijmnkfmkpejmaaW.PrintMore
attribute [local go_sem] max2_int min2_int max_two min_two max_three min_three max_four min_four   -- for this text's walks alone
set_option linter.unusedVariables false
set_option linter.unusedSimpArgs false


/-! ### math_IsNaN: function 35 -/
/-- Is a float none? -/
def math_IsNaN.f (a0 : Nat) : Bool := FloatKind.f64.format.order a0 a0 != some .eq
theorem math_IsNaN.calls (a0 : Nat) (r : Bool) (w : World) (h : math_IsNaN.f a0 = r) :
    Calls Try.prog 35 #[.float .f64 a0] w fun e w' => e = .returned (.bool r) ∧ Drawn0 w w' := by
  subst h
  go_enter Try.func35, Try.ntmps35
  go_wp2
  go_ret
  exact ⟨rfl, by repeat (first | exact Drawn0.refl _ | apply Drawn0.step)⟩


/-! ### math_Abs: function 53 -/
def math_Abs.f (a : Nat) : Nat := (Go.bits .andNot .u64 (a : Int) 9223372036854775808).toNat
theorem math_Abs.bits (a : Nat) (w : World) : (callFunc 54 #[.float .f64 a]).run Try.prog w = .ok (.value (.int .u64 (a : Int))) w := by
  rw [run_callFunc_extern Try.func54 (by kernel_rfl) (by kernel_rfl) (by kernel_rfl) (e := Extern.MathFloatBits.float64bits) (by kernel_rfl)]
  rfl
theorem math_Abs.back (n : Int) (w : World) : (callFunc 61 #[.int .u64 n]).run Try.prog w = .ok (.value (.float .f64 n.toNat)) w := by
  rw [run_callFunc_extern Try.func61 (by kernel_rfl) (by kernel_rfl) (by kernel_rfl) (e := Extern.MathFloatBits.float64frombits) (by kernel_rfl)]
  rfl
theorem math_Abs.calls (a : Nat) (r : Nat) (w : World) (h : math_Abs.f a = r) :
    Calls Try.prog 53 #[.float .f64 a] w fun e w' => e = .returned (.float .f64 r) ∧ Drawn0 w w' := by
  subst h
  unfold math_Abs.f
  have h1 := math_Abs.bits a
  have h2 := math_Abs.back
  go_enter Try.func53, Try.ntmps53
  go_wp2
  go_ret
  exact ⟨by first | rfl | (simp; done), by repeat (first | exact Drawn0.refl _ | apply Drawn0.step)⟩


/-! ### math_IsInf: function 36 -/
def math_IsInf.f (a : Nat) : Bool := FloatKind.f64.format.order (math_Abs.f a) 9218868437227405311 == some .gt
theorem math_IsInf.calls (a : Nat) (r : Bool) (w : World) (h : math_IsInf.f a = r) :
    Calls Try.prog 36 #[.float .f64 a, .int .i64 0] w fun e w' => e = .returned (.bool r) ∧ Drawn0 w w' := by
  subst h
  unfold math_IsInf.f
  obtain ⟨b, hb⟩ : ∃ b, math_Abs.f a = b := ⟨_, rfl⟩
  have HA := Aside0.mk hb
  rw [hb]
  clear hb
  go_enter Try.func36, Try.ntmps36
  go_wp2_with (first | (go_at_call 53; (with_reducible refine (math_Abs.calls a b _ HA.out).mono ?_); rintro e w' ⟨rfl, ⟨nd, rfl⟩⟩))
  go_ret
  exact ⟨by first | rfl | (simp; done), by repeat (first | exact Drawn0.refl _ | apply Drawn0.step)⟩


/-! ### math_Signbit: function 37 -/
def math_Signbit.f (a : Nat) : Bool := decide (wrap64 (a : Int) < 0)
theorem math_Signbit.bits (a : Nat) (w : World) : (callFunc 54 #[.float .f64 a]).run Try.prog w = .ok (.value (.int .u64 (a : Int))) w := by
  rw [run_callFunc_extern Try.func54 (by kernel_rfl) (by kernel_rfl) (by kernel_rfl) (e := Extern.MathFloatBits.float64bits) (by kernel_rfl)]
  rfl
theorem math_Signbit.calls (a : Nat) (r : Bool) (w : World) (h : math_Signbit.f a = r) :
    Calls Try.prog 37 #[.float .f64 a] w fun e w' => e = .returned (.bool r) ∧ Drawn0 w w' := by
  subst h
  unfold math_Signbit.f
  have h1 := math_Signbit.bits a
  go_enter Try.func37, Try.ntmps37
  go_wp2
  go_ret
  exact ⟨by first | rfl | (simp [i64_w]; done) | (simp; done), by repeat (first | exact Drawn0.refl _ | apply Drawn0.step)⟩


/-! ### spec_GoodReal: function 14 -/
def spec_GoodReal.f (a : Nat) : Bool := !(math_IsNaN.f a) && (!(math_IsInf.f a) && !((FloatKind.f64.format.order a 0 == some .eq) && math_Signbit.f a))
set_option maxHeartbeats 8000000 in
theorem spec_GoodReal.calls (a : Nat) (r : Bool) (w : World) (h : spec_GoodReal.f a = r) :
    Calls Try.prog 14 #[.float .f64 a] w fun e w' => e = .returned (.bool r) ∧ Below w.heap.size w w' := by
  subst h
  unfold spec_GoodReal.f
  obtain ⟨bn, hn⟩ : ∃ b, math_IsNaN.f a = b := ⟨_, rfl⟩
  obtain ⟨bi, hi⟩ : ∃ b, math_IsInf.f a = b := ⟨_, rfl⟩
  obtain ⟨bs, hs⟩ : ∃ b, math_Signbit.f a = b := ⟨_, rfl⟩
  rw [hn, hi, hs]
  have AN := Aside0.mk hn
  have AI := Aside0.mk hi
  have AS := Aside0.mk hs
  clear hn hi hs
  cases bn <;> cases bi <;> cases h0 : (FloatKind.f64.format.order a 0 == some .eq) <;> cases bs
  all_goals
    go_enter Try.func14, Try.ntmps14
    go_wp2_with (first | (go_at_call 35; (with_reducible first | refine (math_IsNaN.calls a true _ AN.out).mono ?_ | refine (math_IsNaN.calls a false _ AN.out).mono ?_); rintro e w' ⟨rfl, ⟨nd, rfl⟩⟩) | (go_at_call 36; (with_reducible first | refine (math_IsInf.calls a true _ AI.out).mono ?_ | refine (math_IsInf.calls a false _ AI.out).mono ?_); rintro e w' ⟨rfl, ⟨nd, rfl⟩⟩) | (go_at_call 37; (with_reducible first | refine (math_Signbit.calls a true _ AS.out).mono ?_ | refine (math_Signbit.calls a false _ AS.out).mono ?_); rintro e w' ⟨rfl, ⟨nd, rfl⟩⟩))
    go_ret
    exact ⟨by first | rfl | (simp; done), by repeat (first | exact Below.refl _ _ | apply below_alloc | apply pw_below_drewN | apply below_drew1)⟩


/-! ### impl_isFinite_1: function 56 -/
def impl_isFinite_1.f (a : Nat) : Bool := math_IsNaN.f a || math_IsInf.f a
theorem impl_isFinite_1.calls (a : Nat) (r : Bool) (w : World) (h : impl_isFinite_1.f a = r) :
    Calls Try.prog 56 #[.float .f64 a] w fun e w' => e = .returned (.bool r) ∧ Drawn0 w w' := by
  subst h
  unfold impl_isFinite_1.f
  obtain ⟨bn, hn⟩ : ∃ b, math_IsNaN.f a = b := ⟨_, rfl⟩
  obtain ⟨bi, hi⟩ : ∃ b, math_IsInf.f a = b := ⟨_, rfl⟩
  have AN := Aside0.mk hn
  have AI := Aside0.mk hi
  rw [hn, hi]
  clear hn hi
  cases bn <;> cases bi
  all_goals
    go_enter Try.func56, Try.ntmps56
    go_wp2_with (first | (go_at_call 35; (with_reducible first | refine (math_IsNaN.calls a true _ AN.out).mono ?_ | refine (math_IsNaN.calls a false _ AN.out).mono ?_); rintro e w' ⟨rfl, ⟨nd, rfl⟩⟩) | (go_at_call 36; (with_reducible first | refine (math_IsInf.calls a true _ AI.out).mono ?_ | refine (math_IsInf.calls a false _ AI.out).mono ?_); rintro e w' ⟨rfl, ⟨nd, rfl⟩⟩))
    go_ret
    exact ⟨by first | rfl | (simp; done), by repeat (first | exact Drawn0.refl _ | apply Drawn0.step)⟩


/-! ### slices_ContainsFunc_float64_float64: function 55 -/
theorem slices_ContainsFunc_float64_float64.at_ {w : World} {A : Option Addr} {n : Nat} {xs : List Nat} (h : Kd.C (Kd.scalar (Value.float .f64) (fun _ => rfl)) w A n xs) (i : Int) (h0 : 0 ≤ i) (h1 : i < n) : ∃ ad, A = some ad ∧ w.cell? (ad.add i.toNat) = some (.float .f64 (rdOf 0 xs i)) :=
  ReadsOf.at_ (Kd.reads_of_C (enc := Value.float .f64) (d := (0 : Nat)) (h1 := fun _ => rfl) h) i h0 h1
set_option maxHeartbeats 8000000 in
set_option maxRecDepth 100000 in
theorem slices_ContainsFunc_float64_float64.index (A0 : Option Addr) (c0 : Nat) (l0 : List Nat) (w : World) (hr0 : Kd.C (Kd.scalar (Value.float .f64) (fun _ => rfl)) w A0 l0.length l0) (hc0 : l0.length ≤ c0) :
    Calls Try.prog 60 #[.slice A0 l0.length c0, .func (.func 56) #[] #[]] w fun e w' => e = .returned (.int .i64 (idxO impl_isFinite_1.f l0)) ∧ Below w.heap.size w w' := by
  have hn : l0.length ≤ 9223372036854775807 := hr0.2.1
  have eg := Go.Proofs.enters_of Try.func56 (by kernel_rfl) rfl
  have HR0 := Aside0.mk hr0
  clear hr0
  go_enter Try.func60, Try.ntmps60
  go_wp2
  go_loopg [5, 8] l0.length (fun gg _ s8 wr => ∃ kk : Nat, kk ≤ l0.length ∧ l0.length - kk ≤ gg ∧ s8 = .int .i64 (kk : Int) ∧ Aside0 (Below w.heap.size w wr) ∧ Aside0 (∀ j (hj : j < l0.length), j < kk → impl_isFinite_1.f (l0[j]'hj) = false))
  case atStart => exact ⟨0, Nat.zero_le _, by omega, rfl, ⟨Below.refl _ w⟩, ⟨fun j hj h => absurd h (Nat.not_lt_zero _)⟩⟩
  case round =>
    obtain ⟨kk, hkk, hg, rfl, HB, HN⟩ := hrel
    by_cases hlt : kk < l0.length
    · have hltz : (kk : Int) < (l0.length : Int) := by omega
      have p1 : 0 ≤ (kk : Int) := by omega
      obtain ⟨ad1, e1, hx0⟩ := slices_ContainsFunc_float64_float64.at_ HR0.out (kk : Int) p1 hltz
      have hy : rdOf 0 l0 (kk : Int) = l0[kk]'hlt := by simp [rdOf, hlt]
      cases e1
      rw [hy] at hx0; clear hy
      replace hx0 := (HB.out.cell (World.block_lt_of_cell? w _ hx0)).trans hx0
      simp only [Int.toNat_natCast] at hx0
      generalize hy : l0[kk]'hlt = y at hx0
      have HE := Aside0.mk hy; clear hy
      replace p1 := eq_true p1
      by_cases hq : impl_isFinite_1.f y = true
      · have HQ1 := Aside0.mk hq; clear hq
        go_wp2_with fail
        refine (impl_isFinite_1.calls y true _ HQ1.out).mono ?_
        rintro e w' ⟨rfl, ⟨nd, rfl⟩⟩
        go_wp2
        go_ret
        refine ⟨?_, by repeat (first | (with_reducible first | exact HB.out | apply below_alloc | apply pw_below_drewN | apply below_drew1) | exact HB.out)⟩
        rw [idxO_hit hlt (by rw [HE.out]; exact HQ1.out) (fun j hj => HN.out j (by omega) hj)]
        rfl
      · have HQ1 := Aside0.mk (Bool.eq_false_iff.mpr hq); clear hq
        go_wp2_with fail
        refine (impl_isFinite_1.calls y false _ HQ1.out).mono ?_
        rintro e w' ⟨rfl, ⟨nd, rfl⟩⟩
        go_wp2
        go_roundg (l0.length - (kk + 1))
        case measure => omega
        case rel =>
          refine ⟨kk + 1, by omega, by omega, by go_num, ⟨by repeat (first | (with_reducible first | exact HB.out | apply below_alloc | apply pw_below_drewN | apply below_drew1) | exact HB.out)⟩, ⟨fun j hj h => ?_⟩⟩
          by_cases e : j = kk
          · subst e; rw [HE.out]; exact HQ1.out
          · exact HN.out j hj (by omega)
    · have hltz : ¬ (kk : Int) < (l0.length : Int) := by omega
      have hke : kk = l0.length := by omega
      have HM := Aside0.mk (idxO_miss (p := impl_isFinite_1.f) (fun j hj => HN.out j hj (by omega)))
      clear hke HN
      go_wp2
      go_ret
      exact ⟨by rw [HM.out]; rfl, HB.out⟩
set_option maxHeartbeats 8000000 in
theorem slices_ContainsFunc_float64_float64.calls (A0 : Option Addr) (c0 : Nat) (l0 : List Nat) (w : World) (hr0 : Kd.C (Kd.scalar (Value.float .f64) (fun _ => rfl)) w A0 l0.length l0) (hc0 : l0.length ≤ c0) (r : Bool) (h : l0.any impl_isFinite_1.f = r) :
    Calls Try.prog 55 #[.slice A0 l0.length c0, .func (.func 56) #[] #[]] w fun e w' => e = .returned (.bool r) ∧ Below w.heap.size w w' := by
  subst h
  rw [← idxO_nonneg]
  have hi := idxO_range impl_isFinite_1.f l0
  have hl := hr0.2.1
  have HR := Aside0.mk hr0
  clear hr0
  go_enter Try.func55, Try.ntmps55
  go_wp2_with (first | (go_at_call 60; (with_reducible refine (slices_ContainsFunc_float64_float64.index A0 c0 l0 _ HR.out hc0).mono ?_); rintro e w' ⟨rfl, hb⟩))
  go_ret
  exact ⟨rfl, hb⟩


/-! ### impl_isFinite: function 38 -/
def impl_isFinite.f (l0 : List Nat) : Bool := !(l0.any impl_isFinite_1.f)
theorem impl_isFinite.calls (A0 : Option Addr) (c0 : Nat) (l0 : List Nat) (w : World) (hr0 : Kd.C (Kd.scalar (Value.float .f64) (fun _ => rfl)) w A0 l0.length l0) (hc0 : l0.length ≤ c0) (r : Bool) (h : impl_isFinite.f l0 = r) :
    Calls Try.prog 38 #[.slice A0 l0.length c0] w fun e w' => e = .returned (.bool r) ∧ Below w.heap.size w w' := by
  subst h
  unfold impl_isFinite.f
  obtain ⟨b, hb⟩ : ∃ b, l0.any impl_isFinite_1.f = b := ⟨_, rfl⟩
  have HA := Aside0.mk hb
  have HR := Aside0.mk hr0
  rw [hb]
  clear hb hr0
  go_enter Try.func38, Try.ntmps38
  go_wp2_with (first | (go_at_call 55; (with_reducible refine (slices_ContainsFunc_float64_float64.calls A0 c0 l0 _ HR.out hc0 b HA.out).mono ?_); rintro e w' ⟨rfl, hb⟩))
  go_ret
  exact ⟨rfl, hb⟩


/-! ### impl_GoodReal: function 15 -/
def impl_GoodReal.f (a : Nat) : Bool := impl_isFinite.f [a] && ((FloatKind.f64.format.order a 0 != some .eq) || !(math_Signbit.f a))
set_option maxHeartbeats 8000000 in
theorem impl_GoodReal.calls (a : Nat) (r : Bool) (w : World) (h : impl_GoodReal.f a = r) :
    Calls Try.prog 15 #[.float .f64 a] w fun e w' => e = .returned (.bool r) ∧ Below w.heap.size w w' := by
  subst h
  unfold impl_GoodReal.f
  have HB := Aside0.mk (Below.refl w.heap.size w)
  obtain ⟨y, hy⟩ : ∃ y_ : List Nat, y_ = [a] := ⟨_, rfl⟩
  obtain ⟨bf, hf⟩ : ∃ b, impl_isFinite.f y = b := ⟨_, rfl⟩
  obtain ⟨bs, hs⟩ : ∃ b, math_Signbit.f a = b := ⟨_, rfl⟩
  rw [← hy, hf, hs]
  have Ny := Aside0.mk hy
  have AF := Aside0.mk hf
  have AS := Aside0.mk hs
  clear hy hf hs
  cases bf <;> cases h0 : (FloatKind.f64.format.order a 0 != some .eq) <;> cases bs
  all_goals
    go_enter Try.func15, Try.ntmps15
    go_wp2_with (first | ((with_reducible refine gate_dst (N := 4) rfl ?_); refine Kd.R_lit (Kd.scalar (Value.float .f64) (fun _ => rfl)) _ 22 ?hg (N := 4) ?hd (xs := ([a] : List Nat)) (inner := [.float .f64 a]) (ok := fun _ => True) (okp := fun _ => True) ?hr ?hp (fun _ hk => hk) trivial (Below.refl _ _) (Nat.le_refl _) (by simp) ?_; (case hd => rfl); (case hg => rfl); (case hr => first | (go_simp; done) | (go_simp; rfl)); (case hp => exact (Reps.one (show Kd.M (Kd.scalar (Value.float .f64) (fun _ => rfl)) _ _ _ a [.float .f64 a] from rfl) (Reps.none _ _))); intro v1 w1 ho hb hg_ hnew_; clear hg_ hnew_; (first | rw [← Ny.out] at ho | (simp only [Int.reduceToNat] at ho; rw [← Ny.out] at ho)); have n1_ := Aside0.mk (below_step (by repeat (first | (with_reducible first | exact HB.out | apply below_alloc | apply pw_below_drewN | apply below_drew1) | exact HB.out)) hb); have HO := Aside0.mk ho; clear HB; have HB := n1_; clear n1_; clear hb ho; obtain ⟨Ao, co, eo⟩ := Kd.R_slice HO.out; subst eo) | (go_at_call 38; (with_reducible first | refine (impl_isFinite.calls Ao co y _ (Kd.R_reads' HO.out).2.2 (Kd.R_reads' HO.out).2.1 true AF.out).mono ?_ | refine (impl_isFinite.calls Ao co y _ (Kd.R_reads' HO.out).2.2 (Kd.R_reads' HO.out).2.1 false AF.out).mono ?_); rintro e w' ⟨rfl, hb⟩; have n1_ := Aside0.mk (below_step (by repeat (first | (with_reducible first | exact HB.out | apply below_alloc | apply pw_below_drewN | apply below_drew1) | exact HB.out)) hb); clear HB hb; have HB := n1_; clear n1_) | (go_at_call 37; (with_reducible first | refine (math_Signbit.calls a true _ AS.out).mono ?_ | refine (math_Signbit.calls a false _ AS.out).mono ?_); rintro e w' ⟨rfl, ⟨nd, rfl⟩⟩))
    go_ret
    exact ⟨by first | rfl | (simp; done), by repeat (first | (with_reducible first | exact HB.out | apply below_alloc | apply pw_below_drewN | apply below_drew1) | exact HB.out)⟩


/-! ### spec_OfShort: function 18 -/
theorem spec_OfShort.notInf (s : Bool) (g : Nat) (h : g < 9218868437227405312) : (Ieee.double.read (Ieee.double.word s g)).isInfinity = false := by
  have e : Ieee.double.word s g % 9223372036854775808 = g := by
    cases s
    · show g % 9223372036854775808 = g; omega
    · show (9223372036854775808 + g) % 9223372036854775808 = g; omega
  have e0 : Ieee.double.signWeight = 9223372036854775808 := by decide
  have e1 : Ieee.double.infRung = 9218868437227405312 := by decide
  unfold Ieee.Format.read
  simp only [e0, e1, e]
  split
  · rfl
  · first | rfl | (rw [if_pos h]; rfl)
theorem spec_OfShort.fits (s : Bool) (m : Nat) (e : Int) (hm : m < 16777216) (h0 : -149 ≤ e) (h1 : e ≤ 104) : (Ieee.double.read (Ieee.double.write (.number s m e))).isInfinity = false := by
  show (Ieee.double.read (Ieee.double.nearest s m e)).isInfinity = false
  unfold Ieee.Format.nearest
  by_cases hz : m = 0
  · rw [if_pos hz]; exact spec_OfShort.notInf s 0 (by decide)
  · rw [if_neg hz]
    have hL : m.log2 ≤ 23 := by
      have : m.log2 < 24 := (Nat.log2_lt hz).mpr (by omega)
      omega
    have hU : m < 2 ^ (m.log2 + 1) := Nat.lt_log2_self
    have e2 : Ieee.double.leastPlace = -1074 := by decide
    have e3 : (Ieee.double.fractionBits : Int) = 52 := by decide
    have e4 : Ieee.double.binade = 4503599627370496 := by decide
    have e5 : Ieee.double.infRung = 9218868437227405312 := by decide
    simp only [e2, e3, e4, e5]
    generalize hl : max (e + (m.log2 : Int) - 52) (-1074) = last
    have l1 : last ≤ e := by omega
    have l2 : e - last ≤ 52 - (m.log2 : Int) := by omega
    have l3 : last ≤ 75 := by omega
    have l4 : (last - e).toNat = 0 := by omega
    rw [l4]
    have hk : Ieee.Toward.even.cut s (m <<< (e - last).toNat) 0 = m <<< (e - last).toNat := by
      unfold Ieee.Toward.cut
      simp [Nat.mod_one]
    rw [hk]
    have hb : m <<< (e - last).toNat < 9007199254740992 := by
      rw [Nat.shiftLeft_eq]
      have q1 : (e - last).toNat ≤ 52 - m.log2 := by omega
      have q2 : 2 ^ (e - last).toNat ≤ 2 ^ (52 - m.log2) := Nat.pow_le_pow_right (by decide) q1
      calc m * 2 ^ (e - last).toNat ≤ m * 2 ^ (52 - m.log2) := Nat.mul_le_mul_left _ q2
        _ < 2 ^ (m.log2 + 1) * 2 ^ (52 - m.log2) := Nat.mul_lt_mul_of_pos_right hU (Nat.pow_pos (by decide))
        _ = 2 ^ 53 := by rw [← Nat.pow_add]; congr 1; omega
        _ = 9007199254740992 := by decide
    refine spec_OfShort.notInf s _ ?_
    have q3 : (last - -1074).toNat ≤ 1149 := by omega
    have q4 : (last - -1074).toNat * 4503599627370496 ≤ 5174635971848699904 := Nat.le_trans (Nat.mul_le_mul_right _ q3) (by decide)
    exact Nat.lt_of_le_of_lt (Nat.min_le_left _ _) (Nat.lt_of_lt_of_le (Nat.add_lt_add_of_le_of_lt q4 hb) (by decide))
theorem spec_OfShort.conv (b : Nat) : (∃ r, floatToFloatBits .f32 b .f64 = some r) ∨ (floatToFloatBits .f32 b .f64 = none ∧ ∀ w : World, (convert 51 22 (.float .f32 b)).run Try.prog w = .ok (.float .f64 (Question.cut (.nanConv .f64 b) (w.tape w.drawn (.nanConv .f64 b)))) w.drew) := by
  have hs : Try.prog.underlying 51 = some (.float .f32) := by kernel_rfl
  have hd : Try.prog.underlying 22 = some (.float .f64) := by kernel_rfl
  cases he : Ieee.single.read b with
  | nan s t =>
    have he' : FloatKind.f32.decode b = .nan s t := he
    refine .inr ⟨by simp [floatToFloatBits, he'], fun w => ?_⟩
    simp [convert, run_underlying hs, run_underlying hd, Conv.floatToFloat, he', Question.forced]
  | infinity s =>
    have he' : FloatKind.f32.decode b = .infinity s := he
    exact .inl ⟨_, by simp [floatToFloatBits, he']; rfl⟩
  | number s m e =>
    have he' : FloatKind.f32.decode b = .number s m e := he
    left
    have hb : m < 16777216 ∧ -149 ≤ e ∧ e ≤ 104 := by
      unfold Ieee.Format.read at he
      have e0 : Ieee.single.signWeight = 2147483648 := by decide
      have e1 : Ieee.single.infRung = 2139095040 := by decide
      have e2 : Ieee.single.binade = 8388608 := by decide
      have e3 : Ieee.single.leastPlace = -149 := by decide
      simp only [e0, e1, e2, e3] at he
      split at he
      · simp only [Ieee.Datum.number.injEq] at he
        omega
      · split at he
        · simp only [Ieee.Datum.number.injEq] at he
          omega
        · split at he <;> cases he
    have hf : (FloatKind.f64.decode (FloatKind.f64.encode (.number s m e))).isInfinity = false := spec_OfShort.fits s m e hb.1 hb.2.1 hb.2.2
    exact ⟨FloatKind.f64.encode (.number s m e), by simp [floatToFloatBits, he', hf]⟩
theorem spec_OfShort.none (b t : Nat) : math_IsNaN.f (Question.cut (.nanConv .f64 b) t) = true := by
  have e : ∃ s u, Ieee.double.read (Question.cut (.nanConv .f64 b) t) = .nan s u := by
    show ∃ s u, Ieee.double.read (t % 2 * 2 ^ 63 + 0x7ff0000000000000 + 1 + t / 2 % (2 ^ 52 - 1)) = .nan s u
    generalize hu : t / 2 % (2 ^ 52 - 1) = u
    have hu' : u < 2 ^ 52 - 1 := by rw [← hu]; exact Nat.mod_lt _ (by decide)
    have e0 : Ieee.double.signWeight = 9223372036854775808 := by decide
    have e1 : Ieee.double.infRung = 9218868437227405312 := by decide
    have e2 : Ieee.double.binade = 4503599627370496 := by decide
    have em : (t % 2 * 2 ^ 63 + 0x7ff0000000000000 + 1 + u) % 9223372036854775808 = 0x7ff0000000000000 + 1 + u := by omega
    unfold Ieee.Format.read
    simp only [e0, e1, e2, em]
    rw [if_neg (by omega), if_neg (by omega), if_neg (by omega)]
    exact ⟨_, _, rfl⟩
  obtain ⟨s, u, e⟩ := e
  unfold math_IsNaN.f
  show ((Ieee.double.read (Question.cut (.nanConv .f64 b) t)).order (Ieee.double.read (Question.cut (.nanConv .f64 b) t)) != some .eq) = true
  rw [e]
  rfl
theorem spec_OfShort.bad (b t : Nat) : spec_GoodReal.f (Question.cut (.nanConv .f64 b) t) = false := by
  unfold spec_GoodReal.f
  rw [spec_OfShort.none]
  rfl
theorem spec_OfShort.bits (n : Int) (w : World) : (callFunc 40 #[.int .u32 n]).run Try.prog w = .ok (.value (.float .f32 n.toNat)) w := by
  rw [run_callFunc_extern Try.func40 (by kernel_rfl) (by kernel_rfl) (by kernel_rfl) (e := Extern.MathFloatBits.float32frombits) (by kernel_rfl)]
  rfl
def spec_OfShort.f (a0 : Int) : Nat × Bool :=
  match floatToFloatBits .f32 a0.toNat .f64 with
  | .none => (0, false)
  | .some x => if spec_GoodReal.f x = true then (x, true) else (0, false)
set_option maxHeartbeats 8000000 in
theorem spec_OfShort.calls (a0 : Int) (r : Nat × Bool) (w : World) (h : spec_OfShort.f a0 = r) :
    Calls Try.prog 18 #[.int .u32 a0] w fun e w' => e = .returned (.tuple #[.float .f64 r.1, .bool r.2]) ∧ Below w.heap.size w w' := by
  subst h
  unfold spec_OfShort.f
  have h1 := spec_OfShort.bits a0
  rcases spec_OfShort.conv a0.toNat with ⟨x, hx⟩ | ⟨hx, hc⟩
  · rw [hx]
    have hc := fun w => run_convert_float_float (P := Try.prog) w 51 22 .f32 .f64 a0.toNat x (by kernel_rfl) (by kernel_rfl) hx
    clear hx
    show Calls _ _ _ _ fun e w' => e = .returned (.tuple #[.float .f64 (if spec_GoodReal.f x = true then (x, true) else (0, false)).1, .bool (if spec_GoodReal.f x = true then (x, true) else (0, false)).2]) ∧ _
    obtain ⟨b, hb⟩ : ∃ b, spec_GoodReal.f x = b := ⟨_, rfl⟩
    rw [hb]
    have AB := Aside0.mk hb
    clear hb
    cases b
    all_goals
      go_enter Try.func18, Try.ntmps18
      go_wp2_with (go_at_call 14; (with_reducible first | refine (spec_GoodReal.calls x true _ AB.out).mono ?_ | refine (spec_GoodReal.calls x false _ AB.out).mono ?_); rintro e w' ⟨rfl, hb⟩; have HB := Aside0.mk hb; clear hb)
      go_ret2
      exact ⟨by first | rfl | (simp; done), below_step (by repeat (first | exact Below.refl _ _ | apply below_alloc | apply pw_below_drewN | apply below_drew1)) HB.out⟩
  · rw [hx]
    clear hx
    go_enter Try.func18, Try.ntmps18
    go_wp2_with (go_at_call 14; (with_reducible refine (spec_GoodReal.calls _ false _ (spec_OfShort.bad _ _)).mono ?_); rintro e w' ⟨rfl, hb⟩; have HB := Aside0.mk hb; clear hb)
    go_ret2
    exact ⟨by first | rfl | (simp; done), below_step (by repeat (first | exact Below.refl _ _ | apply below_alloc | apply pw_below_drewN | apply below_drew1)) HB.out⟩


/-! ### impl_OfShort: function 19 -/
theorem impl_OfShort.bad (b t : Nat) : impl_GoodReal.f (Question.cut (.nanConv .f64 b) t) = false := by
  have h := spec_OfShort.none b t
  unfold impl_GoodReal.f impl_isFinite.f
  simp only [List.any_cons, impl_isFinite_1.f, h]
  rfl
def impl_OfShort.f (a0 : Int) : Nat × Bool :=
  match floatToFloatBits .f32 a0.toNat .f64 with
  | .none => (0, false)
  | .some x => if impl_GoodReal.f x = true then (x, true) else (0, false)
set_option maxHeartbeats 8000000 in
theorem impl_OfShort.calls (a0 : Int) (r : Nat × Bool) (w : World) (h : impl_OfShort.f a0 = r) :
    Calls Try.prog 19 #[.int .u32 a0] w fun e w' => e = .returned (.tuple #[.float .f64 r.1, .bool r.2]) ∧ Below w.heap.size w w' := by
  subst h
  unfold impl_OfShort.f
  have h1 := spec_OfShort.bits a0
  rcases spec_OfShort.conv a0.toNat with ⟨x, hx⟩ | ⟨hx, hc⟩
  · rw [hx]
    have hc := fun w => run_convert_float_float (P := Try.prog) w 51 22 .f32 .f64 a0.toNat x (by kernel_rfl) (by kernel_rfl) hx
    clear hx
    show Calls _ _ _ _ fun e w' => e = .returned (.tuple #[.float .f64 (if impl_GoodReal.f x = true then (x, true) else (0, false)).1, .bool (if impl_GoodReal.f x = true then (x, true) else (0, false)).2]) ∧ _
    obtain ⟨b, hb⟩ : ∃ b, impl_GoodReal.f x = b := ⟨_, rfl⟩
    rw [hb]
    have AB := Aside0.mk hb
    clear hb
    cases b
    all_goals
      go_enter Try.func19, Try.ntmps19
      go_wp2_with (go_at_call 15; (with_reducible first | refine (impl_GoodReal.calls x true _ AB.out).mono ?_ | refine (impl_GoodReal.calls x false _ AB.out).mono ?_); rintro e w' ⟨rfl, hb⟩; have HB := Aside0.mk hb; clear hb)
      go_ret2
      exact ⟨by first | rfl | (simp; done), below_step (by repeat (first | exact Below.refl _ _ | apply below_alloc | apply pw_below_drewN | apply below_drew1)) HB.out⟩
  · rw [hx]
    clear hx
    go_enter Try.func19, Try.ntmps19
    go_wp2_with (go_at_call 15; (with_reducible refine (impl_GoodReal.calls _ false _ (impl_OfShort.bad _ _)).mono ?_); rintro e w' ⟨rfl, hb⟩; have HB := Aside0.mk hb; clear hb)
    go_ret2
    exact ⟨by first | rfl | (simp; done), below_step (by repeat (first | exact Below.refl _ _ | apply below_alloc | apply pw_below_drewN | apply below_drew1)) HB.out⟩


/-! ### laws_sameFloat: function 20 -/
theorem laws_sameFloat.quo {a : Nat} (h : (FloatKind.f64.format.order a 0 == some .eq) = true) : ∃ q, floatBits .quo .f64 4607182418800017408 a = some q := by
  have h' : (Ieee.double.read a).order (Ieee.double.read 0) = some .eq := beq_iff_eq.mp h
  have e1 : Ieee.double.read 4607182418800017408 = .number false 4503599627370496 (-52) := by decide +kernel
  show ∃ q, Ieee.Format.div Ieee.double 4607182418800017408 a = some q
  unfold Ieee.Format.div
  rw [e1]
  cases ha : Ieee.double.read a with
  | nan s t => rw [ha] at h'; simp [Ieee.Datum.order] at h'
  | infinity s => exact ⟨_, rfl⟩
  | number s m e =>
    unfold Ieee.Datum.quotient
    by_cases hm : m = 0
    · simp [hm]
    · simp [hm]
/-- Two floats are the same: said of a float that is a number, beside itself. -/
def laws_sameFloat.f (a b : Nat) : Option Bool := if a = b ∧ (FloatKind.f64.format.order a a == some .eq) = true then some true else none
set_option maxHeartbeats 8000000 in
theorem laws_sameFloat.calls (a b : Nat) (r : Bool) (w : World) (h : laws_sameFloat.f a b = some r) :
    Calls Try.prog 20 #[.float .f64 a, .float .f64 b] w fun e w' => e = .returned (.bool r) ∧ Below w.heap.size w w' := by
  unfold laws_sameFloat.f at h
  split at h
  case isFalse => cases h
  case isTrue hc =>
    obtain ⟨rfl, ho⟩ := hc
    obtain rfl : true = r := Option.some.inj h
    clear h
    have ho2 : (FloatKind.f64.format.order a a != some .eq) = false := by rw [bne, ho]; rfl
    cases hz : (FloatKind.f64.format.order a 0 == some .eq)
    · go_enter Try.func20, Try.ntmps20
      go_wp2
      go_ret
      exact ⟨by first | rfl | (simp; done), by repeat (first | exact Below.refl _ _ | apply below_alloc | apply pw_below_drewN | apply below_drew1)⟩
    · obtain ⟨q, hq⟩ := laws_sameFloat.quo hz
      have hd := fun w => run_float_arith (P := Try.prog) w .quo 22 .f64 4607182418800017408 a q hq
      clear hq
      cases hg : (FloatKind.f64.format.order q 0 == some .gt)
      all_goals
        go_enter Try.func20, Try.ntmps20
        go_wp2
        go_ret
        exact ⟨by first | rfl | (simp; done), by repeat (first | exact Below.refl _ _ | apply below_alloc | apply pw_below_drewN | apply below_drew1)⟩


/-! ### laws_FnExactOfShort: function 6 -/
def laws_FnExactOfShort.f (a0 : Int) : Option (Bool) := if impl_OfShort.f a0 = spec_OfShort.f a0 ∧ (FloatKind.f64.format.order (spec_OfShort.f a0).1 (spec_OfShort.f a0).1 == some .eq) = true then some true else none
set_option maxHeartbeats 8000000 in
theorem laws_FnExactOfShort.calls (a0 : Int) (r : Bool) (w : World) (h : laws_FnExactOfShort.f a0 = some r) :
    Calls Try.prog 6 #[.int .u32 a0] w fun e w' => e = .returned (.bool r) ∧ Below w.heap.size w w' := by
  unfold laws_FnExactOfShort.f at h
  split at h
  case isFalse => cases h
  case isTrue hc =>
    obtain ⟨he, ho⟩ := hc
    obtain rfl : true = r := Option.some.inj h
    clear h
    have HB := Aside0.mk (Below.refl w.heap.size w)
    obtain ⟨x, hx⟩ : ∃ x, spec_OfShort.f a0 = x := ⟨_, rfl⟩
    rw [hx] at he ho
    obtain ⟨x1, x2⟩ := x
    have AX := Aside0.mk hx
    have AY := Aside0.mk he
    have AS : Aside0 (laws_sameFloat.f x1 x1 = some true) := ⟨by unfold laws_sameFloat.f; rw [if_pos ⟨rfl, ho⟩]⟩
    clear hx he ho
    cases x2
    all_goals
      go_enter Try.func6, Try.ntmps6
      go_wp2_with (first | (go_at_call 18; (with_reducible refine (spec_OfShort.calls a0 _ _ AX.out).mono ?_); rintro e w' ⟨rfl, hb⟩; have n0_ := Aside0.mk (below_step (by repeat (first | (with_reducible first | exact HB.out | apply below_alloc | apply pw_below_drewN | apply below_drew1) | exact HB.out)) hb); clear HB hb; have HB := n0_; clear n0_) | (go_at_call 19; (with_reducible refine (impl_OfShort.calls a0 _ _ AY.out).mono ?_); rintro e w' ⟨rfl, hb⟩; have n0_ := Aside0.mk (below_step (by repeat (first | (with_reducible first | exact HB.out | apply below_alloc | apply pw_below_drewN | apply below_drew1) | exact HB.out)) hb); clear HB hb; have HB := n0_; clear n0_) | (go_at_call 20; (with_reducible refine (laws_sameFloat.calls x1 x1 true _ AS.out).mono ?_); rintro e w' ⟨rfl, hb⟩; have n0_ := Aside0.mk (below_step (by repeat (first | (with_reducible first | exact HB.out | apply below_alloc | apply pw_below_drewN | apply below_drew1) | exact HB.out)) hb); clear HB hb; have HB := n0_; clear n0_))
      go_ret
      exact ⟨by first | rfl | (simp; done), by repeat (first | (with_reducible first | exact HB.out | apply below_alloc | apply pw_below_drewN | apply below_drew1) | exact HB.out)⟩

end Go.Proofs.Ytijmnkfmkpejmaa.PFnExactOfShort
