/- The machine's side of a law, function by function: a Lean function with the Go function's answers and the proof that the Go code comes to them. No condition. Written by this session's program over the kit's print, this session's own contracts set in. -/
import Derived.Test.YtlijlailbjjfbaaPFnExactStepIslandsx0
import Derived.Test.YtlijlailbjjfbaaPFnExactStepIslandsx1
import Derived.Test.YtlijlailbjjfbaaPFnExactStepIslandsx7
import Derived.Test.YtlijlailbjjfbaaPFnExactStepIslandsx13
import Derived.Test.YtlijlailbjjfbaaPFnExactStepIslandsx14
namespace Go.Proofs.Ytlijlailbjjfbaa.PFnExactStepIslands
open Go.RowKit Go.Proofs.YtlijlailbjjfbaaW.PrintWords Go.Proofs.YtlijlailbjjfbaaW.PrintLast Go.Proofs.YtlijlailbjjfbaaW.PrintMore
attribute [local go_sem] max2_int min2_int max_two min_two max_three min_three max_four min_four   -- for this text's walks alone
set_option linter.unusedVariables false
set_option linter.unusedSimpArgs false

/-! ### laws_heldBodySS: function 50 -/
def laws_heldBodySS.l0 : Nat → List (List (S31)) → Int → Int → Option (Int)
 | 0, _, _, _ => none
 | k + 1, x0, x1, x5 => if x5 < (x0.length : Int) then (if 0 ≤ x5 then ((laws_heldBodyS.f k (rd_L4 x0 x5) x1).bind fun t303 => (if t303 < 0 then (some (-1)) else (laws_heldBodySS.l0 k x0 t303 (wrap64 (x5 + 1))))) else (none)) else (some x1)
def laws_heldBodySS.f (k : Nat) (l0 : List (List (S31))) (a1 : Int) : Option (Int) := laws_heldBodySS.l0 k l0 a1 0
theorem laws_heldBodySS.mono_l : ∀ k, (∀ y0 y1 y2, LeO (laws_heldBodySS.l0 k y0 y1 y2) (laws_heldBodySS.l0 (k + 1) y0 y1 y2))
 | 0 => fun _ _ _ r h => by simp [laws_heldBodySS.l0] at h
 | k + 1 => by
  have ih0 := laws_heldBodySS.mono_l k
  ·intro y0 y1 y2
   unfold laws_heldBodySS.l0
   repeat' first
   | (with_reducible exact ih0 _ _ _)
   | (with_reducible exact laws_heldBodyS.mono _ _ _)
   | (with_reducible exact LeO.refl _)
   | (with_reducible exact LeO.none _)
   | (with_reducible refine LeO.ite ?_ ?_)
   | (with_reducible refine LeO.bind ?_ (fun _ => ?_))
   | exact ih0 _ _ _
   | exact laws_heldBodyS.mono _ _ _
   | exact LeO.none _
   | refine LeO.ite ?_ ?_
   | refine LeO.bind ?_ (fun _ => ?_)
theorem laws_heldBodySS.mono : ∀ a0 a1 k, LeO (laws_heldBodySS.f k a0 a1) (laws_heldBodySS.f (k + 1) a0 a1) := by
 intro a0 a1 k
 have ih0 := laws_heldBodySS.mono_l k
 unfold laws_heldBodySS.f
 repeat' first
   | (with_reducible exact ih0 _ _ _)
   | (with_reducible exact laws_heldBodyS.mono _ _ _)
   | (with_reducible exact LeO.refl _)
   | (with_reducible exact LeO.none _)
   | (with_reducible refine LeO.ite ?_ ?_)
   | (with_reducible refine LeO.bind ?_ (fun _ => ?_))
   | exact ih0 _ _ _
   | exact laws_heldBodyS.mono _ _ _
   | exact LeO.none _
   | refine LeO.ite ?_ ?_
   | refine LeO.bind ?_ (fun _ => ?_)
set_option maxHeartbeats 8000000 in
set_option maxRecDepth 100000 in
theorem laws_heldBodySS.calls (k : Nat) (A0 : Option Addr) (c0 : Nat) (l0 : List (List (S31))) (a1 : Int) (r : Int) (w : World) (hr0 : Kd.C (Kd.slice 31 k31) w A0 l0.length l0) (hc0 : l0.length ≤ c0) (h : laws_heldBodySS.f k l0 a1 = some r) :
  Calls Try.prog 50 #[.slice A0 l0.length c0, .int .i64 a1] w fun e w' => e = .returned (.int .i64 r) ∧ Drawn0 w w' := by
 have HR0 := Aside0.mk hr0
 have HC0 := Aside0.mk hc0
 clear hr0 hc0
 have H : (laws_heldBodySS.l0 k l0 a1 0) = some r := h
 clear h
 have H' := Aside0.mk H
 clear H
 go_enter Try.func50, Try.ntmps50
 go_wp2
 go_loopg [1, 5] k (fun kq v1 v5 w' => ∃ (x1_1 : Int) (x5_1 : Int), v1 = .int .i64 x1_1 ∧ v5 = .int .i64 x5_1 ∧ Aside0 (laws_heldBodySS.l0 kq l0 x1_1 x5_1 = some r) ∧ Aside0 (kq ≤ k) ∧ Drawn0 w w')
 case atStart => exact ⟨(a1), (0), (by first | rfl | (simp; done) | (simp [*]; done)), (by first | rfl | (simp; done) | (simp [*]; done)), H', ⟨Nat.le_refl _⟩, by repeat (first | exact Drawn0.refl _ | apply Drawn0.step)⟩
 case round =>
  clear H'
  try clear p2
  obtain ⟨x1_1, x5_1, rfl, rfl, HA, HK1, ⟨m1, rfl⟩⟩ := hrel
  cases gk with
  | zero => exact absurd HA.out (by simp [laws_heldBodySS.l0])
  | succ k1 =>
   have H := HA.out
   clear HA
   simp only [laws_heldBodySS.l0] at H
   by_cases c3 : x5_1 < (l0.length : Int)
   ·rw [if_pos c3] at H
    have c3b0 : decide (x5_1 < (l0.length : Int)) = true := decide_eq_true c3
    clear c3
    by_cases c4 : 0 ≤ x5_1
    ·rw [if_pos c4] at H
     have c4b0 : decide (0 ≤ x5_1) = true := decide_eq_true c4
     clear c4
     replace H := Option.bind_eq_some_iff.mp H
     obtain ⟨t303, A50, H⟩ := H
     replace H : (if t303 < 0 then (some (-1)) else (laws_heldBodySS.l0 k1 l0 t303 (wrap64 (x5_1 + 1)))) = some r := H
     have A5 := Aside0.mk A50
     clear A50
     by_cases c6 : t303 < 0
     ·rw [if_pos c6] at H
      have c6b0 : decide (t303 < 0) = true := decide_eq_true c6
      clear c6
      obtain rfl := Option.some.inj H
      have p302 : 0 ≤ (x5_1 : Int) := odt
      have q302 : x5_1 < (l0.length : Int) := odt
      obtain ⟨ad302, A302_0, c302_0, e302, hx302_0, hl302_0, hi302_0⟩ := at_L4 HR0.out x5_1 p302 q302
      cases e302
      have HR302_0 := Aside0.mk hi302_0
      have HC302_0 := Aside0.mk hl302_0
      clear hi302_0 hl302_0
      replace p302 := eq_true p302
      replace q302 := eq_true q302
      go_wp2_with (first | ((with_reducible refine gate_callee (f := 39) rfl ?_); refine goesL_ (some 17) rfl rfl Try.func39 (by kernel_rfl) rfl #[.slice A302_0 (rd_L4 l0 x5_1).length c302_0, .int .i64 x1_1] rfl (by (try simp only [List.map_toArray, List.map_cons, List.map_nil]); first | done | rfl | (simp only [List.length_drop, List.length_take]; rfl)) ?_; (with_reducible refine (laws_heldBodyS.calls k1 _ _ (rd_L4 l0 x5_1) x1_1 t303 _ ?side1 ?side2 A5.out).mono ?_); (case side1 => repeat (first | exact HR302_0.out | (with_reducible refine Kd.C_alloc ?_ _) | (with_reducible refine Kd.C_drewN ?_ _) | (with_reducible refine Kd.C_drew ?_))); (case side2 => exact HC302_0.out); rintro e w' ⟨rfl, ⟨nd, rfl⟩⟩; refine ⟨_, rfl, ?_⟩))
      go_ret
      exact ⟨by first | rfl | (simp; done) | (simp [*]; done), by repeat (first | exact Drawn0.refl _ | apply Drawn0.step)⟩
     ·rw [if_neg c6] at H
      have c6b0 : decide (t303 < 0) = false := decide_eq_false c6
      clear c6
      have H' := Aside0.mk H
      clear H
      have p302 : 0 ≤ (x5_1 : Int) := odt
      have q302 : x5_1 < (l0.length : Int) := odt
      obtain ⟨ad302, A302_0, c302_0, e302, hx302_0, hl302_0, hi302_0⟩ := at_L4 HR0.out x5_1 p302 q302
      cases e302
      have HR302_0 := Aside0.mk hi302_0
      have HC302_0 := Aside0.mk hl302_0
      clear hi302_0 hl302_0
      replace p302 := eq_true p302
      replace q302 := eq_true q302
      go_wp2_with (first | ((with_reducible refine gate_callee (f := 39) rfl ?_); refine goesL_ (some 17) rfl rfl Try.func39 (by kernel_rfl) rfl #[.slice A302_0 (rd_L4 l0 x5_1).length c302_0, .int .i64 x1_1] rfl (by (try simp only [List.map_toArray, List.map_cons, List.map_nil]); first | done | rfl | (simp only [List.length_drop, List.length_take]; rfl)) ?_; (with_reducible refine (laws_heldBodyS.calls k1 _ _ (rd_L4 l0 x5_1) x1_1 t303 _ ?side1 ?side2 A5.out).mono ?_); (case side1 => repeat (first | exact HR302_0.out | (with_reducible refine Kd.C_alloc ?_ _) | (with_reducible refine Kd.C_drewN ?_ _) | (with_reducible refine Kd.C_drew ?_))); (case side2 => exact HC302_0.out); rintro e w' ⟨rfl, ⟨nd, rfl⟩⟩; refine ⟨_, rfl, ?_⟩))
      go_roundg k1
      case measure => have := HK1.out; omega
      case rel => exact ⟨(t303), (wrap64 (x5_1 + 1)), (by first | rfl | (simp; done) | (simp [*]; done)), (by first | rfl | (simp; done) | (simp [*]; done)), H', ⟨by have := HK1.out; omega⟩, by repeat (first | exact Drawn0.refl _ | apply Drawn0.step)⟩
    ·rw [if_neg c4] at H
     exact absurd H (by simp)
   ·rw [if_neg c3] at H
    have c3b0 : decide (x5_1 < (l0.length : Int)) = false := decide_eq_false c3
    clear c3
    obtain rfl := Option.some.inj H
    go_wp2
    go_ret
    exact ⟨by first | rfl | (simp; done) | (simp [*]; done), by repeat (first | exact Drawn0.refl _ | apply Drawn0.step)⟩


/-! ### laws_FnExactStepIslands: function 10 -/
def laws_FnExactStepIslands.f (k : Nat) (l0 : List (List (S30))) (a1 : Int) (a2 : Int) (a3 : Int) : Option (Bool) :=
 (laws_szBodySS.f k l0 1048576).bind fun v => if v < 0 then some true else
 (laws_toBodySS.f k l0).bind fun g => (spec_StepIslands.f k g a1 a2 a3).bind fun s => (impl_StepIslands.f k g a1 a2 a3).bind fun t =>
 (laws_eqBodySS.f k t.1 s.1).bind fun e1 => (laws_eqBodySS.f k g g).bind fun e2 => (laws_markBodySS.f k g 1).bind fun m =>
 (laws_markBodySS.f k t.1 1).bind fun n => (laws_heldBodySS.f k n.2 1).bind fun q =>
 if e1 = true ∧ e2 = true ∧ t.2 = s.2 ∧ ¬ m.1 < 0 ∧ q = n.1 ∧ ¬ q < 0 then some true else none
theorem laws_FnExactStepIslands.bnd {α : Type} {d : Kd α} {e base : Nat} {w : World} {v : Value} {xs : List α} (h : Kd.S d e w base (fun _ => True) v xs) : Kd.S d e w base (fun k_ => base ≤ k_ ∧ k_ < w.heap.size) v xs := Kd.S_mono (Kd.S_bound h) (fun _ hk => ⟨hk.2.1, hk.2.2.1⟩)
theorem laws_FnExactStepIslands.held (k : Nat) (A : Option Addr) (c : Nat) (tl nq : List (List (S31))) (q : Int) (w : World) {base : Nat} {ok : Nat → Prop} (h : Kd.S (Kd.slice 31 k31) 25 w base ok (.slice A tl.length c) nq) (hq : laws_heldBodySS.f k nq 1 = some q) : Calls Try.prog 50 #[.slice A tl.length c, .int .i64 1] w fun e w' => e = .returned (.int .i64 q) ∧ Drawn0 w w' := by
 have hr := Kd.S_reads' h
 have hc : nq.length ≤ c := hr.1 ▸ hr.2.1
 rw [hr.1]
 exact laws_heldBodySS.calls k A c nq 1 q w hr.2.2 hc hq
theorem laws_FnExactStepIslands.drn {w w' : World} (h : Drawn0 w w') : Below w.heap.size w w' := by obtain ⟨n, rfl⟩ := h; exact pw_below_drewN (Below.refl _ _) n
set_option maxHeartbeats 8000000 in
set_option maxRecDepth 100000 in
theorem laws_FnExactStepIslands.small (k : Nat) (A0 : Option Addr) (c0 : Nat) (l0 : List (List (S30))) (a1 : Int) (a2 : Int) (a3 : Int) (v : Int) (w : World) (hr0 : Kd.C (Kd.slice 30 k30) w A0 l0.length l0) (hc0 : l0.length ≤ c0) (hv : laws_szBodySS.f k l0 1048576 = some v) (hn : v < 0) :
  Calls Try.prog 10 #[.slice A0 l0.length c0, .int .i64 a1, .int .i64 a2, .int .i64 a3] w fun e w' => e = .returned (.bool true) ∧ Below w.heap.size w w' := by
 have R0 := Aside0.mk hr0
 have V := Aside0.mk hv
 have d1 : decide (v < 0) = true := decide_eq_true hn
 clear hr0 hv hn
 go_enter Try.func10, Try.ntmps10
 go_wp2_with fail
 refine (laws_szBodySS.calls k _ _ l0 1048576 v _ R0.out hc0 V.out).mono ?_
 rintro e w2 ⟨rfl, hdr⟩
 have H2 := Aside0.mk (laws_FnExactStepIslands.drn hdr)
 clear hdr
 go_wp2
 go_ret
 exact ⟨rfl, H2.out⟩
set_option maxHeartbeats 32000000 in
set_option maxRecDepth 100000 in
theorem laws_FnExactStepIslands.long (k : Nat) (A0 : Option Addr) (c0 : Nat) (l0 : List (List (S30))) (a1 : Int) (a2 : Int) (a3 : Int) (v : Int) (g : List (List (S31))) (sl : List (List (S31))) (b : Bool) (tl : List (List (S31))) (m : Int) (gm : List (List (S31))) (nq : List (List (S31))) (q : Int) (w : World) (hr0 : Kd.C (Kd.slice 30 k30) w A0 l0.length l0) (hc0 : l0.length ≤ c0) (hv : laws_szBodySS.f k l0 1048576 = some v) (hn : ¬ v < 0) (hg : laws_toBodySS.f k l0 = some g) (hs : spec_StepIslands.f k g a1 a2 a3 = some (sl, b)) (ht : impl_StepIslands.f k g a1 a2 a3 = some (tl, b)) (h1 : laws_eqBodySS.f k tl sl = some true) (h2 : laws_eqBodySS.f k g g = some true) (hm : laws_markBodySS.f k g 1 = some (m, gm)) (hm0 : ¬ m < 0) (hk : laws_markBodySS.f k tl 1 = some (q, nq)) (hq : laws_heldBodySS.f k nq 1 = some q) (hq0 : ¬ q < 0) :
  Calls Try.prog 10 #[.slice A0 l0.length c0, .int .i64 a1, .int .i64 a2, .int .i64 a3] w fun e w' => e = .returned (.bool true) ∧ Below w.heap.size w w' := by
 have R0 := Aside0.mk hr0
 have V := Aside0.mk hv
 have TG := Aside0.mk hg
 have SPEC := Aside0.mk hs
 have IMPL := Aside0.mk ht
 have E1 := Aside0.mk h1
 have E2 := Aside0.mk h2
 have MG := Aside0.mk hm
 have MK := Aside0.mk hk
 have HD := Aside0.mk hq
 have d1 : decide (v < 0) = false := decide_eq_false hn
 have d2 : decide (m < 0) = false := decide_eq_false hm0
 have d3 : decide (q < 0) = false := decide_eq_false hq0
 have d4 : (q != q) = false := bne_self_eq_false q
 have d5 : (b != b) = false := bne_self_eq_false b
 clear hr0 hv hg hs ht h1 h2 hm hk hq hn hm0 hq0
 go_enter Try.func10, Try.ntmps10
 go_wp2_with fail
 refine (laws_szBodySS.calls k _ _ l0 1048576 v _ R0.out hc0 V.out).mono ?_
 rintro e w2 ⟨rfl, hdr⟩
 have H2 := Aside0.mk (laws_FnExactStepIslands.drn hdr)
 clear hdr
 go_wp2_with fail
 refine (laws_toBodySS.calls k _ _ l0 g _ (Kd.C_below R0.out H2.out) hc0 TG.out).mono ?_
 rintro e w3 ⟨u1, rfl, ho1, hb⟩
 obtain ⟨B1, k1, rfl⟩ := Kd.S_slice ho1
 have X1 := Aside0.mk ho1
 have H3 := Aside0.mk (below_step H2.out hb)
 clear hb H2 ho1
 go_wp2_with fail
 refine (spec_StepIslands.calls k _ _ g a1 a2 a3 sl b _ (Kd.S_reads' X1.out).2.2 (Kd.S_reads' X1.out).2.1 SPEC.out).mono ?_
 rintro e w4 ⟨u2, rfl, ho0, hb⟩
 obtain ⟨BW, kw, rfl⟩ := Kd.S_slice ho0
 have OW := Aside0.mk (Kd.S_mono (laws_FnExactStepIslands.bnd ho0) (ok' := fun k_ => k_ < w4.heap.size) (fun _ hk => hk.2))
 have H4 := Aside0.mk (below_step H3.out hb)
 clear hb ho0 X1 H3
 go_wp2_with fail
 refine (laws_toBodySS.calls k _ _ l0 g _ (Kd.C_below R0.out H4.out) hc0 TG.out).mono ?_
 rintro e w5 ⟨u1, rfl, ho1, hb⟩
 obtain ⟨B1, k1, rfl⟩ := Kd.S_slice ho1
 have L5 := Aside0.mk hb.size
 have X1 := Aside0.mk (Kd.S_lower (laws_FnExactStepIslands.bnd ho1) (below_size H4.out))
 have H5 := Aside0.mk (below_step H4.out hb)
 have n_ := Aside0.mk (Kd.S_below OW.out hb)
 clear OW
 have OW := n_
 clear n_ hb H4 ho1
 go_wp2_with fail
 refine (impl_StepIslands.calls k _ _ g a1 a2 a3 tl b _ (Kd.S_reads' X1.out).2.2 (Kd.S_reads' X1.out).2.1 IMPL.out).mono ?_
 rintro e w7 ⟨u2, rfl, ho0, hb⟩
 obtain ⟨BG, kg, rfl⟩ := Kd.S_slice ho0
 have OG := Aside0.mk (Kd.S_lower (Kd.S_mono (laws_FnExactStepIslands.bnd ho0) (ok' := fun k_ => w5.heap.size ≤ k_) (fun _ hk => hk.1)) (below_size H5.out))
 have H7 := Aside0.mk (below_step H5.out hb)
 have n1 := Aside0.mk (Kd.S_below OW.out hb)
 have n2 := Aside0.mk (Kd.S_below X1.out hb)
 clear ho0 OW X1 hb H5
 go_wp2_with fail
 refine (laws_eqBodySS.calls k _ _ tl _ _ sl true _ (Kd.S_reads' OG.out).2.2 (Kd.S_reads' OG.out).2.1 (Kd.S_reads' n1.out).2.2 (Kd.S_reads' n1.out).2.1 E1.out).mono ?_
 rintro e w8 ⟨rfl, hb⟩
 have H8 := Aside0.mk (below_step H7.out hb)
 have n3 := Aside0.mk (Kd.S_below n1.out hb)
 have n4 := Aside0.mk (Kd.S_below n2.out hb)
 have n5 := Aside0.mk (Kd.S_below OG.out hb)
 clear H7 n1 n2 OG hb
 go_wp2_with fail
 refine (laws_toBodySS.calls k _ _ l0 g _ (Kd.C_below R0.out H8.out) hc0 TG.out).mono ?_
 rintro e w9 ⟨u1, rfl, ho1, hb⟩
 obtain ⟨B2, k2, rfl⟩ := Kd.S_slice ho1
 have Y1 := Aside0.mk ho1
 have H9 := Aside0.mk (below_step H8.out hb)
 have n6 := Aside0.mk (Kd.S_below n3.out hb)
 have n7 := Aside0.mk (Kd.S_below n4.out hb)
 have n8 := Aside0.mk (Kd.S_below n5.out hb)
 clear H8 n3 n4 n5 hb ho1
 go_wp2_with fail
 refine (laws_eqBodySS.calls k _ _ g _ _ g true _ (Kd.S_reads' n7.out).2.2 (Kd.S_reads' n7.out).2.1 (Kd.S_reads' Y1.out).2.2 (Kd.S_reads' Y1.out).2.1 E2.out).mono ?_
 rintro e w10 ⟨rfl, hb⟩
 have H10 := Aside0.mk (below_step H9.out hb)
 have p2 := Aside0.mk (Kd.S_below n6.out hb)
 have p4 := Aside0.mk (Kd.S_below n7.out hb)
 have p5 := Aside0.mk (Kd.S_below n8.out hb)
 clear H9 n6 n7 n8 Y1 hb
 go_wp2_with fail
 refine (laws_markBodySS.calls k _ _ g 1 m gm w _ H10.out p4.out MG.out).mono ?_
 rintro e w11 ⟨rfl, _, hB, hKp⟩
 have H11 := Aside0.mk hB
 have OW := Aside0.mk (Kd.S_kept p2.out hKp (fun k_ hk hs => by omega))
 have OG := Aside0.mk (Kd.S_kept p5.out hKp (fun k_ hk hs => by omega))
 clear H10 p2 p4 p5 hB hKp
 go_wp2_with fail
 refine (laws_eqBodySS.calls k _ _ tl _ _ sl true _ (Kd.S_reads' OG.out).2.2 (Kd.S_reads' OG.out).2.1 (Kd.S_reads' OW.out).2.2 (Kd.S_reads' OW.out).2.1 E1.out).mono ?_
 rintro e w12 ⟨rfl, hb⟩
 have H12 := Aside0.mk (below_step H11.out hb)
 have n1 := Aside0.mk (Kd.S_below OW.out hb)
 have n2 := Aside0.mk (Kd.S_below OG.out hb)
 clear H11 OW OG hb
 go_wp2_with fail
 refine (laws_markBodySS.calls k _ _ tl 1 q nq w _ H12.out n2.out MK.out).mono ?_
 rintro e w13 ⟨rfl, hR, hB, hKp⟩
 have H13 := Aside0.mk hB
 have OW := Aside0.mk (Kd.S_kept n1.out hKp (fun k_ hk hs => by have h2_ := L5.out; omega))
 have OG := Aside0.mk hR
 clear H12 n1 n2 hB hKp hR
 go_wp2_with fail
 refine (laws_FnExactStepIslands.held k _ _ tl nq q _ OG.out HD.out).mono ?_
 rintro e w14 ⟨rfl, hdr⟩
 have hb := laws_FnExactStepIslands.drn hdr
 have H14 := Aside0.mk (below_step H13.out hb)
 have n1 := Aside0.mk (Kd.S_below OW.out hb)
 have n2 := Aside0.mk (Kd.S_below OG.out hb)
 clear H13 OW OG hb hdr
 go_wp2_with fail
 refine (laws_toBodySS.calls k _ _ l0 g _ (Kd.C_below R0.out H14.out) hc0 TG.out).mono ?_
 rintro e w15 ⟨u1, rfl, ho1, hb⟩
 obtain ⟨B3, k3, rfl⟩ := Kd.S_slice ho1
 have X1 := Aside0.mk ho1
 have H15 := Aside0.mk (below_step H14.out hb)
 have n3 := Aside0.mk (Kd.S_below n1.out hb)
 have n4 := Aside0.mk (Kd.S_below n2.out hb)
 clear H14 n1 n2 hb ho1
 go_wp2_with fail
 refine (impl_StepIslands.calls k _ _ g a1 a2 a3 tl b _ (Kd.S_reads' X1.out).2.2 (Kd.S_reads' X1.out).2.1 IMPL.out).mono ?_
 rintro e w16 ⟨u2, rfl, ho0, hb⟩
 obtain ⟨BH, kh, rfl⟩ := Kd.S_slice ho0
 have OH := Aside0.mk ho0
 have H16 := Aside0.mk (below_step H15.out hb)
 have n5 := Aside0.mk (Kd.S_below n3.out hb)
 have n6 := Aside0.mk (Kd.S_below n4.out hb)
 clear H15 n3 n4 hb ho0 X1
 go_wp2_with fail
 refine (laws_eqBodySS.calls k _ _ tl _ _ sl true _ (Kd.S_reads' OH.out).2.2 (Kd.S_reads' OH.out).2.1 (Kd.S_reads' n5.out).2.2 (Kd.S_reads' n5.out).2.1 E1.out).mono ?_
 rintro e w17 ⟨rfl, hb⟩
 have H17 := Aside0.mk (below_step H16.out hb)
 have n7 := Aside0.mk (Kd.S_below n6.out hb)
 clear H16 OH n5 n6 hb
 go_wp2_with fail
 refine (laws_FnExactStepIslands.held k _ _ tl nq q _ n7.out HD.out).mono ?_
 rintro e w18 ⟨rfl, hdr⟩
 have H18 := Aside0.mk (below_step H17.out (laws_FnExactStepIslands.drn hdr))
 clear H17 n7 hdr
 go_wp2
 go_ret
 exact ⟨rfl, H18.out⟩
theorem laws_FnExactStepIslands.calls (k : Nat) (A0 : Option Addr) (c0 : Nat) (l0 : List (List (S30))) (a1 : Int) (a2 : Int) (a3 : Int) (r : Bool) (w : World) (hr0 : Kd.C (Kd.slice 30 k30) w A0 l0.length l0) (hc0 : l0.length ≤ c0) (h : laws_FnExactStepIslands.f k l0 a1 a2 a3 = some r) :
  Calls Try.prog 10 #[.slice A0 l0.length c0, .int .i64 a1, .int .i64 a2, .int .i64 a3] w fun e w' => e = .returned (.bool r) ∧ Below w.heap.size w w' := by
 unfold laws_FnExactStepIslands.f at h
 obtain ⟨v, hv, h⟩ := Option.bind_eq_some_iff.mp h
 by_cases hn : v < 0
 ·rw [if_pos hn] at h
  obtain rfl := Option.some.inj h
  exact laws_FnExactStepIslands.small k A0 c0 l0 a1 a2 a3 v w hr0 hc0 hv hn
 rw [if_neg hn] at h
 obtain ⟨g, hg, h⟩ := Option.bind_eq_some_iff.mp h
 obtain ⟨⟨sl, sb⟩, hs, h⟩ := Option.bind_eq_some_iff.mp h
 obtain ⟨⟨tl, tb⟩, ht, h⟩ := Option.bind_eq_some_iff.mp h
 obtain ⟨e1, h1, h⟩ := Option.bind_eq_some_iff.mp h
 obtain ⟨e2, h2, h⟩ := Option.bind_eq_some_iff.mp h
 obtain ⟨⟨m, gm⟩, hm, h⟩ := Option.bind_eq_some_iff.mp h
 obtain ⟨⟨n1, n2⟩, hk, h⟩ := Option.bind_eq_some_iff.mp h
 obtain ⟨q, hq, h⟩ := Option.bind_eq_some_iff.mp h
 split at h
 case isFalse => cases h
 case isTrue hc =>
  obtain rfl := Option.some.inj h
  obtain ⟨c1, c2, c3, c4, c5, c6⟩ := hc
  dsimp only at c3 c4 c5 hs ht h1 h2 hm hk hq
  subst c1 c2 c3 c5
  exact laws_FnExactStepIslands.long k A0 c0 l0 a1 a2 a3 v g sl tb tl m gm n2 q w hr0 hc0 hv hn hg hs ht h1 h2 hm c4 hk hq c6

end Go.Proofs.Ytlijlailbjjfbaa.PFnExactStepIslands
