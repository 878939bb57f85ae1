/- The machine's side of a law, function by function: a Lean function with the Go function's answers and the proof that the Go code comes to them. No condition. Written by this session's program over the kit's print, this session's own contracts set in. -/
import Derived.Test.YtmkmomcpbkogiaaPFnExactLengthOfx0
import Derived.Test.YtmkmomcpbkogiaaPFnExactLengthOfx1
namespace Go.Proofs.Ytmkmomcpbkogiaa.PFnExactLengthOf
open Go.RowKit Go.Proofs.YtmkmomcpbkogiaaW.PrintWords Go.Proofs.YtmkmomcpbkogiaaW.PrintLast Go.Proofs.YtmkmomcpbkogiaaW.PrintMore
attribute [local go_sem] max2_int min2_int max_two min_two max_three min_three max_four min_four   -- for this text's walks alone
set_option linter.unusedVariables false
set_option linter.unusedSimpArgs false


/-! ### impl_LengthOf: function 21 -/
/-- The greatest number whose square is at most n. -/
def isq : Nat → Nat
  | 0 => 0
  | n + 1 => if (isq n + 1) * (isq n + 1) ≤ n + 1 then isq n + 1 else isq n
theorem isq_le (n : Nat) : isq n * isq n ≤ n ∧ n < (isq n + 1) * (isq n + 1) := by
  induction n with
  | zero => exact ⟨by decide, by decide⟩
  | succ n ih =>
    unfold isq
    by_cases h : (isq n + 1) * (isq n + 1) ≤ n + 1
    · rw [if_pos h]
      refine ⟨h, ?_⟩
      have : (isq n + 1 + 1) * (isq n + 1 + 1) = (isq n + 1) * (isq n + 1) + 2 * (isq n + 1) + 1 := by
        rw [Nat.add_mul (isq n + 1) 1 (isq n + 1 + 1), Nat.mul_add (isq n + 1) (isq n + 1) 1]; omega
      omega
    · rw [if_neg h]
      exact ⟨by omega, by omega⟩
theorem isq_iff (n m : Nat) : m * m ≤ n ↔ m ≤ isq n := by
  obtain ⟨h1, h2⟩ := isq_le n
  constructor
  · intro h
    rcases Nat.lt_or_ge (isq n) m with hc | hc
    · have := Nat.mul_le_mul (show isq n + 1 ≤ m from hc) (show isq n + 1 ≤ m from hc)
      omega
    · exact hc
  · intro h
    exact Nat.le_trans (Nat.mul_le_mul h h) h1
set_option maxHeartbeats 4000000 in
set_option maxRecDepth 100000 in
/-- 'greatest' finds the last number for which the condition holds, where it holds up to r and not beyond. -/
theorem greatest_calls (g : Nat) (cap : Array Value) (eg : ∀ args w, (callFunc g args).run Try.prog w = .ok (.enter g args) w) (high r : Int) (h0 : 0 ≤ r) (h1 : r ≤ high) (h2 : high ≤ 1152921504606846976) (w : World)
    (hG : ∀ n : Int, 0 ≤ n → n ≤ high → ∀ W, Below w.heap.size w W → Calls Try.prog g (#[.int .i64 n] ++ cap) W fun e w' => e = .returned (.bool (decide (n ≤ r))) ∧ Below W.heap.size W w') :
    Calls Try.prog 67 #[.int .i64 high, .func (.func g) #[] cap] w fun e w' => e = .returned (.int .i64 r) ∧ Below w.heap.size w w' := by
  have HG := Aside0.mk hG
  clear hG
  go_enter Try.func67, Try.ntmps67
  go_wp2
  go_loopg [0, 5] (high.toNat + 1) (fun gg s0 s5 wr => ∃ hi lo : Int, s0 = .int .i64 hi ∧ s5 = .int .i64 lo ∧ 0 ≤ lo ∧ lo ≤ r ∧ r ≤ hi ∧ hi ≤ high ∧ (hi - lo).toNat < gg ∧ Aside0 (Below w.heap.size w wr))
  case atStart => exact ⟨high, 0, rfl, rfl, by omega, h0, h1, by omega, by omega, ⟨Below.refl _ _⟩⟩
  case round =>
    obtain ⟨hi, lo, rfl, rfl, l0, l1, l2, l3, hg, HB⟩ := hrel
    by_cases hlt : lo < hi
    · have hm0 : 0 ≤ (hi - lo + 1) / 2 := by omega
      have hm1 : (hi - lo + 1) / 2 ≤ hi - lo := by omega
      have hm2 : 0 < (hi - lo + 1) / 2 := by omega
      by_cases hr : lo + (hi - lo + 1) / 2 ≤ r
      · have HC := Aside0.mk (HG.out (lo + (hi - lo + 1) / 2) (by omega) (by omega) _ HB.out)
        rw [decide_eq_true hr] at HC
        go_wp2_with (first | (go_at_fn g; refine HC.out.mono ?_; rintro e w1 ⟨rfl, hb⟩; have n0_ := Aside0.mk (below_step (w := w) HB.out hb); clear HB hb; have HB := n0_; clear n0_))
        go_roundg ((hi - (lo + (hi - lo + 1) / 2)).toNat + 1)
        case measure => omega
        case rel => exact ⟨hi, lo + (hi - lo + 1) / 2, rfl, rfl, by omega, hr, l2, l3, by omega, HB⟩
      · have HC := Aside0.mk (HG.out (lo + (hi - lo + 1) / 2) (by omega) (by omega) _ HB.out)
        rw [decide_eq_false hr] at HC
        go_wp2_with (first | (go_at_fn g; refine HC.out.mono ?_; rintro e w1 ⟨rfl, hb⟩; have n0_ := Aside0.mk (below_step (w := w) HB.out hb); clear HB hb; have HB := n0_; clear n0_))
        go_roundg ((lo + (hi - lo + 1) / 2 - 1 - lo).toNat + 1)
        case measure => omega
        case rel => exact ⟨lo + (hi - lo + 1) / 2 - 1, lo, rfl, rfl, by omega, l1, by omega, by omega, by omega, HB⟩
    · have e : lo = r := by omega
      have HE := Aside0.mk e
      clear e
      go_wp2
      go_ret
      exact ⟨by rw [← HE.out]; rfl, HB.out⟩
def impl_LengthOf.abs (a : Int) : Int := if a < 0 then -a else a
/-- The length of two fixed numbers: the root of the sum of their squares, at most MaxFixed. -/
def impl_LengthOf.g (a b : Int) : Int := mn (isq (impl_LengthOf.abs a * impl_LengthOf.abs a + impl_LengthOf.abs b * impl_LengthOf.abs b).toNat : Int) 1099511627776
def impl_LengthOf.f (k : Nat) (a0 : Int) (a1 : Int) : Option (Int) := (impl_areFixed.f k [a0, a1]).bind fun t => if t = true then (if -1099511627776 ≤ a0 ∧ a0 ≤ 1099511627776 ∧ -1099511627776 ≤ a1 ∧ a1 ≤ 1099511627776 then some (impl_LengthOf.g a0 a1) else none) else some 0
theorem impl_LengthOf.mono : ∀ a0 a1 k, LeO (impl_LengthOf.f k a0 a1) (impl_LengthOf.f (k + 1) a0 a1) := by
  intro a0 a1 k
  unfold impl_LengthOf.f
  exact LeO.bind (impl_areFixed.mono _ _) (fun _ => LeO.refl _)
theorem impl_LengthOf.ret {x y : Int} (h : x = y) : Ending.returned (.int .i64 x) = .returned (.int .i64 y) := by rw [h]
theorem impl_LengthOf.sized {a : Int} (h0 : -1099511627776 ≤ a) (h1 : a ≤ 1099511627776) : impl_size.f a = some (impl_LengthOf.abs a) := by
  unfold impl_size.f impl_LengthOf.abs mx
  congr 1
  have e : wrap64 (-a) = -a := by unfold wrap64; omega
  rw [e]
  split <;> split <;> omega
theorem impl_LengthOf.absIn {a : Int} (h0 : -1099511627776 ≤ a) (h1 : a ≤ 1099511627776) : 0 ≤ impl_LengthOf.abs a ∧ impl_LengthOf.abs a ≤ 1099511627776 := by
  unfold impl_LengthOf.abs; split <;> omega
theorem impl_LengthOf.add (x y : Int) (hx : 0 ≤ x) (hy : 0 ≤ y) (w : World) : (callFunc 63 #[.int .u64 x, .int .u64 y, .int .u64 0]).run Try.prog w = .ok (.value (.tuple #[.int .u64 ((x + y) % 18446744073709551616), .int .u64 ((x + y) / 18446744073709551616)])) w := by
  rw [run_callFunc_extern Try.func63 (by kernel_rfl) (by kernel_rfl) (by kernel_rfl) (e := add64Entry) (by kernel_rfl), run_add64 x y 0 hx hy (by omega) (by omega)]
  simp only [Result.andThen, Int.add_zero]
theorem impl_LengthOf.mul64 {x y : Int} (x0 : 0 ≤ x) (x1 : x ≤ 1099511627776) (y0 : 0 ≤ y) (y1 : y ≤ 1099511627776) : bits_Mul64.f x y = some (x * y / 18446744073709551616, x * y % 18446744073709551616) := by
  have wu : ∀ n : Int, IntKind.u64.wrap n = n % 18446744073709551616 := fun n => by simp [IntKind.wrap, IntKind.bits, IntKind.signed]
  have wi : ∀ n : Int, 0 ≤ n → n < 18446744073709551616 → IntKind.u64.wrap n = n := fun n h0 h1 => by rw [wu]; omega
  have msk : ∀ n : Int, 0 ≤ n → n < 18446744073709551616 → Go.bits .and .u64 n 4294967295 = n % 4294967296 := fun n h0 h1 => by
    exact Go.bits_mask .u64 64 (by decide) (fun n a b => by rw [wu]; omega) 32 (by decide) n h0 (by omega)
  unfold bits_Mul64.f
  obtain ⟨p, hp⟩ : ∃ p, x / 4294967296 = p := ⟨_, rfl⟩
  obtain ⟨q, hq⟩ : ∃ q, x % 4294967296 = q := ⟨_, rfl⟩
  obtain ⟨u, hu⟩ : ∃ u, y / 4294967296 = u := ⟨_, rfl⟩
  obtain ⟨v, hv⟩ : ∃ v, y % 4294967296 = v := ⟨_, rfl⟩
  rw [msk x x0 (by omega), msk y y0 (by omega), hp, hq, hu, hv]
  have p0 : 0 ≤ p ∧ p ≤ 256 := by omega
  have q0 : 0 ≤ q ∧ q < 4294967296 := by omega
  have u0 : 0 ≤ u ∧ u ≤ 256 := by omega
  have v0 : 0 ≤ v ∧ v < 4294967296 := by omega
  have hx : x = p * 4294967296 + q := by omega
  have hy : y = u * 4294967296 + v := by omega
  clear hp hq hu hv x0 x1 y0 y1
  have P0 : 0 ≤ p * u := Int.mul_nonneg p0.1 u0.1
  have P1 : p * u ≤ 256 * 256 := Int.mul_le_mul p0.2 u0.2 u0.1 (by omega)
  have Q0 : 0 ≤ p * v := Int.mul_nonneg p0.1 v0.1
  have Q1 : p * v ≤ 256 * 4294967295 := Int.mul_le_mul p0.2 (by omega) v0.1 (by omega)
  have R0 : 0 ≤ q * u := Int.mul_nonneg q0.1 u0.1
  have R1 : q * u ≤ 4294967295 * 256 := Int.mul_le_mul (by omega) u0.2 u0.1 (by omega)
  have S0 : 0 ≤ q * v := Int.mul_nonneg q0.1 v0.1
  have S1 : q * v ≤ 4294967295 * 4294967295 := Int.mul_le_mul (by omega) (by omega) v0.1 (by omega)
  have E : x * y = (p * u) * 18446744073709551616 + (p * v) * 4294967296 + (q * u) * 4294967296 + q * v := by
    rw [hx, hy, Int.add_mul, Int.mul_add, Int.mul_add]
    have e1 : p * 4294967296 * (u * 4294967296) = (p * u) * 18446744073709551616 := by
      rw [Int.mul_assoc, Int.mul_left_comm 4294967296 u 4294967296, ← Int.mul_assoc]; rfl
    have e2 : p * 4294967296 * v = (p * v) * 4294967296 := by rw [Int.mul_assoc, Int.mul_comm 4294967296 v, ← Int.mul_assoc]
    have e3 : q * (u * 4294967296) = (q * u) * 4294967296 := by rw [← Int.mul_assoc]
    rw [e1, e2, e3]; omega
  rw [E]
  clear E hx hy
  generalize p * u = P at *
  generalize p * v = Q at *
  generalize q * u = R at *
  generalize q * v = S at *
  rw [wi P (by omega) (by omega), wi Q (by omega) (by omega), wi R (by omega) (by omega), wi S (by omega) (by omega)]
  rw [wi (Q + S / 4294967296) (by omega) (by omega), wi (P + (Q + S / 4294967296) / 4294967296) (by omega) (by omega)]
  rw [msk (Q + S / 4294967296) (by omega) (by omega), wi ((Q + S / 4294967296) % 4294967296 + R) (by omega) (by omega)]
  rw [wi (P + (Q + S / 4294967296) / 4294967296 + ((Q + S / 4294967296) % 4294967296 + R) / 4294967296) (by omega) (by omega), wu]
  congr 1
  rw [Prod.mk.injEq]
  exact ⟨by omega, rfl⟩
theorem impl_LengthOf.sq {a : Int} (h0 : -1099511627776 ≤ a) (h1 : a ≤ 1099511627776) : impl_square.f a = some (impl_LengthOf.abs a * impl_LengthOf.abs a / 18446744073709551616, impl_LengthOf.abs a * impl_LengthOf.abs a % 18446744073709551616) := by
  have wi : ∀ n : Int, 0 ≤ n → n < 18446744073709551616 → IntKind.u64.wrap n = n := fun n h0 h1 => by
    have e : IntKind.u64.wrap n = n % 18446744073709551616 := by simp [IntKind.wrap, IntKind.bits, IntKind.signed]
    rw [e]; omega
  have I := impl_LengthOf.absIn h0 h1
  unfold impl_square.f
  rw [impl_LengthOf.sized h0 h1]
  simp only [Option.bind_some]
  rw [wi _ (by omega) (by omega), impl_LengthOf.mul64 I.1 I.2 I.1 I.2]
  rfl
set_option maxHeartbeats 4000000 in
set_option maxRecDepth 100000 in
theorem impl_LengthOf.cond (n H L hi lo : Int) (W : World) (p q : Addr) (hp : W.cell? p = some (.int .u64 hi)) (hq : W.cell? q = some (.int .u64 lo)) (hs : impl_square.f n = some (H, L)) :
    Calls Try.prog 68 #[.int .i64 n, .pointer (some p), .pointer (some q)] W fun e w' => e = .returned (.bool (decide (H < hi) || (decide (H = hi) && decide (L ≤ lo)))) ∧ Below W.heap.size W w' := by
  have HS := Aside0.mk hs
  have lp := World.block_lt_of_cell? W _ hp
  have lq := World.block_lt_of_cell? W _ hq
  clear hs
  by_cases c1 : H < hi
  · have d1 : decide (H < hi) = true := decide_eq_true c1
    have D := Aside0.mk d1
    clear c1
    go_enter Try.func68, Try.ntmps68
    go_wp2_with fail
    refine (impl_square.calls n H L _ HS.out).mono ?_
    rintro e w1 ⟨rfl, hb⟩
    have hp1 := (hb.cell lp).trans hp
    have hq1 := (hb.cell lq).trans hq
    have HB := Aside0.mk hb
    clear hb
    go_wp2
    go_ret
    exact ⟨by rw [D.out]; rfl, HB.out⟩
  · have d1 : decide (H < hi) = false := decide_eq_false c1
    by_cases c2 : H = hi
    · subst c2
      by_cases c3 : L ≤ lo
      all_goals
        first
        | (have d3 : decide (L ≤ lo) = true := decide_eq_true c3; have D := Aside0.mk (And.intro d1 d3); clear c3)
        | (have d3 : decide (L ≤ lo) = false := decide_eq_false c3; have D := Aside0.mk (And.intro d1 d3); clear c3)
        clear c1
        go_enter Try.func68, Try.ntmps68
        go_wp2_with fail
        refine (impl_square.calls n H L _ HS.out).mono ?_
        rintro e w1 ⟨rfl, hb⟩
        have hp1 := (hb.cell lp).trans hp
        have hq1 := (hb.cell lq).trans hq
        have HB := Aside0.mk hb
        clear hb
        go_wp2
        go_ret
        exact ⟨by rw [D.out.1, D.out.2]; simp, HB.out⟩
    · have d2 : (H == hi) = false := by rw [beq_eq_false_iff_ne]; exact c2
      have D := Aside0.mk (And.intro d1 (show decide (H = hi) = false from decide_eq_false c2))
      clear c1 c2
      go_enter Try.func68, Try.ntmps68
      go_wp2_with fail
      refine (impl_square.calls n H L _ HS.out).mono ?_
      rintro e w1 ⟨rfl, hb⟩
      have hp1 := (hb.cell lp).trans hp
      have hq1 := (hb.cell lq).trans hq
      have HB := Aside0.mk hb
      clear hb
      go_wp2
      go_ret
      exact ⟨by rw [D.out.1, D.out.2]; rfl, HB.out⟩
theorem impl_LengthOf.key (T n : Int) (T0 : 0 ≤ T) (n0 : 0 ≤ n) (n1 : n ≤ 1099511627776) :
    (decide (impl_LengthOf.abs n * impl_LengthOf.abs n / 18446744073709551616 < T / 18446744073709551616) || (decide (impl_LengthOf.abs n * impl_LengthOf.abs n / 18446744073709551616 = T / 18446744073709551616) && decide (impl_LengthOf.abs n * impl_LengthOf.abs n % 18446744073709551616 ≤ T % 18446744073709551616))) = decide (n ≤ mn (isq T.toNat : Int) 1099511627776) := by
  have e : impl_LengthOf.abs n = n := by unfold impl_LengthOf.abs; rw [if_neg (by omega)]
  rw [e]
  have h0 : 0 ≤ n * n := Int.mul_nonneg n0 n0
  have key : (n ≤ mn (isq T.toNat : Int) 1099511627776) ↔ n * n ≤ T := by
    obtain ⟨m, rfl⟩ := Int.eq_ofNat_of_zero_le n0
    have := isq_iff T.toNat m
    have e : ((m : Int) * m) = ((m * m : Nat) : Int) := by rw [Int.natCast_mul]
    rw [e]
    unfold mn
    split <;> omega
  rw [show decide (n ≤ mn (isq T.toNat : Int) 1099511627776) = decide (n * n ≤ T) from decide_eq_decide.mpr key]
  clear key
  generalize n * n = s at *
  by_cases c1 : s / 18446744073709551616 < T / 18446744073709551616
  · rw [decide_eq_true c1, decide_eq_true (show s ≤ T by omega)]; rfl
  · rw [decide_eq_false c1]
    by_cases c2 : s / 18446744073709551616 = T / 18446744073709551616
    · rw [decide_eq_true c2, Bool.false_or, Bool.true_and, decide_eq_decide]; omega
    · rw [decide_eq_false c2, decide_eq_false (show ¬ s ≤ T by omega)]; rfl
set_option maxHeartbeats 4000000 in
set_option maxRecDepth 100000 in
theorem impl_LengthOf.yes (k : Nat) (a b : Int) (w : World) (ht : impl_areFixed.f k [a, b] = some true) (h1 l1 h2 l2 C L T : Int) (hs1 : impl_square.f a = some (h1, l1)) (hs2 : impl_square.f b = some (h2, l2)) (g0 : 0 ≤ h1) (g1 : h1 ≤ 65536) (g2 : 0 ≤ h2) (g3 : h2 ≤ 65536) (c0 : 0 ≤ C) (c1 : C ≤ 1)
    (hT : h1 + h2 + C = T / 18446744073709551616) (hL : L = T % 18446744073709551616) (T0 : 0 ≤ T) (hadd : ∀ W : World, (callFunc 63 #[.int .u64 l1, .int .u64 l2, .int .u64 0]).run Try.prog W = .ok (.value (.tuple #[.int .u64 L, .int .u64 C])) W) :
    Calls Try.prog 21 #[.int .i64 a, .int .i64 b] w fun e w' => e = .returned (.int .i64 (mn (isq T.toNat : Int) 1099511627776)) ∧ Below w.heap.size w w' := by
  have HT := Aside0.mk ht
  have S1 := Aside0.mk hs1
  have S2 := Aside0.mk hs2
  have eg := Go.Proofs.enters_of Try.func68 (by kernel_rfl) rfl
  have r0 : 0 ≤ mn (isq T.toNat : Int) 1099511627776 := by unfold mn; split <;> omega
  have r1 : mn (isq T.toNat : Int) 1099511627776 ≤ 1099511627776 := by unfold mn; split <;> omega
  have HC := Aside0.mk (fun (W0 : World) (p q : Addr) (hp : W0.cell? p = some (.int .u64 (h1 + h2 + C))) (hq : W0.cell? q = some (.int .u64 L)) => greatest_calls 68 #[.pointer (some p), .pointer (some q)] eg 1099511627776 (mn (isq T.toNat : Int) 1099511627776) r0 r1 (by decide) W0 (fun n n0 n1 W hW2 => by
    have hp1 := (hW2.cell (World.block_lt_of_cell? W0 _ hp)).trans hp
    have hq1 := (hW2.cell (World.block_lt_of_cell? W0 _ hq)).trans hq
    have hc := impl_LengthOf.cond n _ _ _ _ W p q hp1 hq1 (impl_LengthOf.sq (a := n) (by omega) n1)
    rw [hT, hL, impl_LengthOf.key T n T0 n0 n1] at hc
    exact hc))
  clear ht hs1 hs2 hT hL T0 eg r0 r1
  go_enter Try.func21, Try.ntmps21
  go_wp2_with fail
  refine (impl_areFixed.calls k _ _ [a, b] true _ (C_two (ad := ⟨w.heap.size, 0, none⟩) (by simp [Addr.add]) (by simp [Addr.add])) (by simp) HT.out).mono ?_
  rintro e w1 ⟨rfl, ⟨n1, rfl⟩⟩
  go_wp2_with fail
  refine (impl_square.calls a h1 l1 _ S1.out).mono ?_
  rintro e w2 ⟨rfl, hb⟩
  have HB := Aside0.mk (below_step (w := w) (by repeat (first | exact Below.refl _ _ | apply below_alloc | apply pw_below_drewN | apply below_drew1)) hb)
  clear hb
  go_wp2_with fail
  refine (impl_square.calls b h2 l2 _ S2.out).mono ?_
  rintro e w3 ⟨rfl, hb⟩
  have HB2 := Aside0.mk (below_step (w := w) (by repeat (first | exact HB.out | apply below_alloc | apply pw_below_drewN | apply below_drew1)) hb)
  clear hb HB
  go_wp2_with fail
  refine (HC.out _ _ _ ?_ ?_).mono ?_
  · simp
  · simp
  rintro e w4 ⟨rfl, hb⟩
  have HB := Aside0.mk (below_step (w := w) (by repeat (first | exact HB2.out | apply below_alloc | apply pw_below_drewN | apply below_drew1)) hb)
  clear hb HB2
  go_wp2
  go_ret
  exact ⟨rfl, HB.out⟩
theorem impl_LengthOf.all (k : Nat) (a b : Int) (w : World) (ht : impl_areFixed.f k [a, b] = some true) (a0 : -1099511627776 ≤ a) (a1 : a ≤ 1099511627776) (b0 : -1099511627776 ≤ b) (b1 : b ≤ 1099511627776) :
    Calls Try.prog 21 #[.int .i64 a, .int .i64 b] w fun e w' => e = .returned (.int .i64 (impl_LengthOf.g a b)) ∧ Below w.heap.size w w' := by
  have I1 := impl_LengthOf.absIn a0 a1
  have I2 := impl_LengthOf.absIn b0 b1
  have s1 := impl_LengthOf.sq a0 a1
  have s2 := impl_LengthOf.sq b0 b1
  have P0 : 0 ≤ impl_LengthOf.abs a * impl_LengthOf.abs a := Int.mul_nonneg I1.1 I1.1
  have P1 : impl_LengthOf.abs a * impl_LengthOf.abs a ≤ 1099511627776 * 1099511627776 := Int.mul_le_mul I1.2 I1.2 I1.1 (by omega)
  have Q0 : 0 ≤ impl_LengthOf.abs b * impl_LengthOf.abs b := Int.mul_nonneg I2.1 I2.1
  have Q1 : impl_LengthOf.abs b * impl_LengthOf.abs b ≤ 1099511627776 * 1099511627776 := Int.mul_le_mul I2.2 I2.2 I2.1 (by omega)
  unfold impl_LengthOf.g
  generalize impl_LengthOf.abs a * impl_LengthOf.abs a = P at *
  generalize impl_LengthOf.abs b * impl_LengthOf.abs b = Q at *
  exact impl_LengthOf.yes k a b w ht _ _ _ _ ((P % 18446744073709551616 + Q % 18446744073709551616) / 18446744073709551616) ((P % 18446744073709551616 + Q % 18446744073709551616) % 18446744073709551616) (P + Q) s1 s2 (by omega) (by omega) (by omega) (by omega) (by omega) (by omega) (by omega) (by omega) (by omega) (fun W => impl_LengthOf.add _ _ (by omega) (by omega) W)
theorem impl_LengthOf.calls (k : Nat) (a0 : Int) (a1 : Int) (r : Int) (w : World) (h : impl_LengthOf.f k a0 a1 = some r) :
    Calls Try.prog 21 #[.int .i64 a0, .int .i64 a1] w fun e w' => e = .returned (.int .i64 r) ∧ Below w.heap.size w w' := by
  unfold impl_LengthOf.f at h
  obtain ⟨t, ht, h⟩ := Option.bind_eq_some_iff.mp h
  cases t with
  | false =>
    rw [if_neg (show ¬ (false = true) by decide)] at h
    obtain rfl := Option.some.inj h
    have HT := Aside0.mk ht
    clear ht h
    go_enter Try.func21, Try.ntmps21
    go_wp2_with fail
    refine (impl_areFixed.calls k _ _ [a0, a1] false _ (C_two (ad := ⟨w.heap.size, 0, none⟩) (by simp [Addr.add]) (by simp [Addr.add])) (by simp) HT.out).mono ?_
    rintro e w1 ⟨rfl, ⟨n1, rfl⟩⟩
    go_wp2
    go_ret
    exact ⟨rfl, by repeat (first | exact Below.refl _ _ | apply below_alloc | apply pw_below_drewN | apply below_drew1)⟩
  | true =>
    rw [if_pos rfl] at h
    split at h
    · rename_i hb
      obtain ⟨b0, b1, b2, b3⟩ := hb
      obtain rfl := Option.some.inj h
      exact impl_LengthOf.all k a0 a1 w ht b0 b1 b2 b3
    · cases h

/-! ### laws_FnExactLengthOf: function 6 -/
def laws_FnExactLengthOf.f (k : Nat) (a0 : Int) (a1 : Int) : Option (Bool) := (spec_LengthOf.f k a0 a1).bind fun t139 => ((impl_LengthOf.f k a0 a1).bind fun t140 => (if t140 = t139 then (some true) else (some false)))
theorem laws_FnExactLengthOf.mono : ∀ a0 a1 k, LeO (laws_FnExactLengthOf.f k a0 a1) (laws_FnExactLengthOf.f (k + 1) a0 a1) := by
  intro a0 a1 k
  unfold laws_FnExactLengthOf.f
  repeat' first
      | (with_reducible exact impl_LengthOf.mono _ _ _)
      | (with_reducible exact spec_LengthOf.mono _ _ _)
      | (with_reducible exact LeO.refl _)
      | (with_reducible exact LeO.none _)
      | (with_reducible refine LeO.ite ?_ ?_)
      | (with_reducible refine LeO.bind ?_ (fun _ => ?_))
      | exact impl_LengthOf.mono _ _ _
      | exact spec_LengthOf.mono _ _ _
      | exact LeO.none _
      | refine LeO.ite ?_ ?_
      | refine LeO.bind ?_ (fun _ => ?_)
set_option maxHeartbeats 8000000 in
set_option maxRecDepth 100000 in
theorem laws_FnExactLengthOf.calls (k : Nat) (a0 : Int) (a1 : Int) (r : Bool) (w : World) (h : laws_FnExactLengthOf.f k a0 a1 = some r) :
    Calls Try.prog 6 #[.int .i64 a0, .int .i64 a1] w fun e w' => e = .returned (.bool r) ∧ Below w.heap.size w w' := by
  have HB := Aside0.mk (Below.refl w.heap.size w)
  have H : ((spec_LengthOf.f k a0 a1).bind fun t139 => ((impl_LengthOf.f k a0 a1).bind fun t140 => (if t140 = t139 then (some true) else (some false)))) = some r := h
  clear h
  replace H := Option.bind_eq_some_iff.mp H
  obtain ⟨t139, A30, H⟩ := H
  replace H : ((impl_LengthOf.f k a0 a1).bind fun t140 => (if t140 = t139 then (some true) else (some false))) = some r := H
  have A3 := Aside0.mk A30
  clear A30
  replace H := Option.bind_eq_some_iff.mp H
  obtain ⟨t140, A40, H⟩ := H
  replace H : (if t140 = t139 then (some true) else (some false)) = some r := H
  have A4 := Aside0.mk A40
  clear A40
  by_cases c5 : t140 = t139
  · rw [if_pos c5] at H
    have c5b0 : (t140 == t139) = true := beq_iff_eq.mpr c5
    have c5b1 : (t140 != t139) = false := bne_eq_false_iff_eq.mpr c5
    clear c5
    obtain rfl := Option.some.inj H
    go_enter Try.func6, Try.ntmps6
    go_wp2_with (first | ((with_reducible refine gate_callee (f := 20) rfl ?_); refine goesL_ (some 9) rfl rfl Try.func20 (by kernel_rfl) rfl #[.int .i64 a0, .int .i64 a1] rfl (by (try simp only [List.map_toArray, List.map_cons, List.map_nil]); first | done | rfl | (simp only [List.length_drop, List.length_take]; rfl)) ?_; (with_reducible refine (spec_LengthOf.calls k a0 a1 t139 _ A3.out).mono ?_); rintro e w6 ⟨rfl, hb⟩; refine ⟨_, rfl, ?_⟩; have n0_ := Aside0.mk (below_step (by repeat (first | (with_reducible first | exact HB.out | apply below_alloc | apply pw_below_drewN | apply below_drew1) | exact HB.out)) hb); clear HB; have HB := n0_; clear n0_; (try clear hb); (try clear hb2); (try clear hk); (try clear hi)) | ((with_reducible refine gate_callee (f := 21) rfl ?_); refine goesL_ (some 12) rfl rfl Try.func21 (by kernel_rfl) rfl #[.int .i64 a0, .int .i64 a1] rfl (by (try simp only [List.map_toArray, List.map_cons, List.map_nil]); first | done | rfl | (simp only [List.length_drop, List.length_take]; rfl)) ?_; (with_reducible refine (impl_LengthOf.calls k a0 a1 t140 _ A4.out).mono ?_); rintro e w7 ⟨rfl, hb⟩; refine ⟨_, rfl, ?_⟩; have n0_ := Aside0.mk (below_step (by repeat (first | (with_reducible first | exact HB.out | apply below_alloc | apply pw_below_drewN | apply below_drew1) | exact HB.out)) hb); clear HB; have HB := n0_; clear n0_; (try clear hb); (try clear hb2); (try clear hk); (try clear hi)))
    go_ret
    exact ⟨by first | rfl | (simp [errW_none, errW_some] <;> rfl) | (simp [*, errW_none, errW_some] <;> rfl), by repeat (first | (with_reducible first | exact HB.out | apply below_alloc | apply pw_below_drewN | apply below_drew1) | exact HB.out)⟩
  · rw [if_neg c5] at H
    have c5b0 : (t140 == t139) = false := beq_eq_false_iff_ne.mpr c5
    have c5b1 : (t140 != t139) = true := bne_iff_ne.mpr c5
    obtain rfl := Option.some.inj H
    go_enter Try.func6, Try.ntmps6
    go_wp2_with (first | ((with_reducible refine gate_callee (f := 20) rfl ?_); refine goesL_ (some 9) rfl rfl Try.func20 (by kernel_rfl) rfl #[.int .i64 a0, .int .i64 a1] rfl (by (try simp only [List.map_toArray, List.map_cons, List.map_nil]); first | done | rfl | (simp only [List.length_drop, List.length_take]; rfl)) ?_; (with_reducible refine (spec_LengthOf.calls k a0 a1 t139 _ A3.out).mono ?_); rintro e w8 ⟨rfl, hb⟩; refine ⟨_, rfl, ?_⟩; have n0_ := Aside0.mk (below_step (by repeat (first | (with_reducible first | exact HB.out | apply below_alloc | apply pw_below_drewN | apply below_drew1) | exact HB.out)) hb); clear HB; have HB := n0_; clear n0_; (try clear hb); (try clear hb2); (try clear hk); (try clear hi)) | ((with_reducible refine gate_callee (f := 21) rfl ?_); refine goesL_ (some 12) rfl rfl Try.func21 (by kernel_rfl) rfl #[.int .i64 a0, .int .i64 a1] rfl (by (try simp only [List.map_toArray, List.map_cons, List.map_nil]); first | done | rfl | (simp only [List.length_drop, List.length_take]; rfl)) ?_; (with_reducible refine (impl_LengthOf.calls k a0 a1 t140 _ A4.out).mono ?_); rintro e w9 ⟨rfl, hb⟩; refine ⟨_, rfl, ?_⟩; have n0_ := Aside0.mk (below_step (by repeat (first | (with_reducible first | exact HB.out | apply below_alloc | apply pw_below_drewN | apply below_drew1) | exact HB.out)) hb); clear HB; have HB := n0_; clear n0_; (try clear hb); (try clear hb2); (try clear hk); (try clear hi)))
    go_ret
    exact ⟨by first | rfl | (simp [errW_none, errW_some] <;> rfl) | (simp [*, errW_none, errW_some] <;> rfl), by repeat (first | (with_reducible first | exact HB.out | apply below_alloc | apply pw_below_drewN | apply below_drew1) | exact HB.out)⟩

/-- THE ONE PURE STATEMENT of laws_FnExactLengthOf: yours. -/
def laws_FnExactLengthOf.Pure : Prop := ∀ (a0 : Int) (a1 : Int), (Lit.int .i64 a0).wf = true → (Lit.int .i64 a1).wf = true → ∃ k, laws_FnExactLengthOf.f k a0 a1 = some true
theorem laws_FnExactLengthOf.walk (P : laws_FnExactLengthOf.Pure) (a0 : Int) (a1 : Int) (w : World) (w0 : (Lit.int .i64 a0).wf = true) (w1 : (Lit.int .i64 a1).wf = true) :
    Calls Try.prog 6 #[.int .i64 a0, .int .i64 a1] w fun e w' => e = .returned (.bool true) ∧ Below w.heap.size w w' := by
  obtain ⟨k, h⟩ := P a0 a1 w0 w1
  refine (laws_FnExactLengthOf.calls k a0 a1 true w h).mono ?_
  rintro e w' ⟨rfl, hd⟩
  exact ⟨rfl, hd⟩

end Go.Proofs.Ytmkmomcpbkogiaa.PFnExactLengthOf
