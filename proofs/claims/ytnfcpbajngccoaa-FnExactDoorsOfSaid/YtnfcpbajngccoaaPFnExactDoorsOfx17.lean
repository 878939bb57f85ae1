/- The machine's side of a law, function by function: a Lean function with the Go function's answers and the proof that the Go code comes to them. No condition. Written by this session's program over the kit's print, this session's own contracts set in. -/
import Derived.Test.YtnfcpbajngccoaaPFnExactDoorsOfx0
import Derived.Test.YtnfcpbajngccoaaPFnExactDoorsOfx2
import Derived.Test.YtnfcpbajngccoaaPFnExactDoorsOfx3
import Derived.Test.YtnfcpbajngccoaaPFnExactDoorsOfx4
import Derived.Test.YtnfcpbajngccoaaPFnExactDoorsOfx9
import Derived.Test.YtnfcpbajngccoaaPFnExactDoorsOfx16
namespace Go.Proofs.Ytnfcpbajngccoaa.PFnExactDoorsOf
open Go.RowKit Go.Proofs.YtnfcpbajngccoaaW.PrintWords Go.Proofs.YtnfcpbajngccoaaW.PrintLast Go.Proofs.YtnfcpbajngccoaaW.PrintMore
attribute [local go_sem] max2_int min2_int max_two min_two max_three min_three max_four min_four   -- for this text's walks alone
set_option linter.unusedVariables false
set_option linter.unusedSimpArgs false


/-! ### laws_FnExactDoorsOf: function 6 -/
def laws_FnExactDoorsOf.f (k : Nat) (l0_0 : List (S51)) (l0_1 : List (List Int)) (l1 : List Int) : Option (Bool) :=
 if (1048576 : Int) < (l1.length : Int) then some true else
 (laws_szGround.f k l0_0 l0_1 1048576).bind fun v => if v < 0 then some true else
 (laws_toGround.f k l0_0 l0_1).bind fun g => (laws_toIntS.f k l1).bind fun f => (spec_DoorsOf.f k g.1 g.2 f).bind fun s => (impl_DoorsOf.f k g.1 g.2 f).bind fun t =>
 (laws_eqIntSS.f k t.1 s.1).bind fun e1 => (laws_eqGround.f k g.1 g.2 g.1 g.2).bind fun e2 => (laws_eqIntS.f k f f).bind fun e3 => (laws_markGround.f k g.1 g.2 1).bind fun m => (laws_markIntS.f k f m).bind fun p =>
 (laws_markIntSS.f k t.1 1).bind fun n => (laws_heldIntSS.f k n.2 1).bind fun q =>
 if e1 = true ∧ e2 = true ∧ e3 = true ∧ t.2 = s.2 ∧ ¬ p.1 < 0 ∧ q = n.1 ∧ ¬ q < 0 then some true else none
structure laws_FnExactDoorsOf.St (w W : World) (gA : Nat) (o : Obj) : Prop where
 hB : Below w.heap.size w W
 bA : W.heap[gA]? = some o
theorem laws_FnExactDoorsOf.St.step {w W W' : World} {gA : Nat} {o : Obj} (s : laws_FnExactDoorsOf.St w W gA o) (hb : Below W.heap.size W W') : laws_FnExactDoorsOf.St w W' gA o := ⟨below_step s.hB hb, blk_below s.bA hb⟩
theorem laws_FnExactDoorsOf.St.cells {w W : World} {gA t : Nat} {a b : Value} (s : laws_FnExactDoorsOf.St w W gA (.cells #[a, b] t (0, 0))) : W.cell? ⟨gA, 0, none⟩ = some a ∧ W.cell? ⟨gA, 1, none⟩ = some b := ⟨(blk_cell s.bA 0).trans rfl, (blk_cell s.bA 1).trans rfl⟩
theorem laws_FnExactDoorsOf.bnd {α : Type} {d : Kd α} {e base : Nat} {w : World} {v : Value} {xs : List α} (h : d.R e w base (fun _ => True) v xs) : d.R e w base (fun k_ => base ≤ k_ ∧ k_ < w.heap.size) v xs := Kd.R_mono (Kd.R_bound h) (fun _ hk => ⟨hk.2.1, hk.2.2.1⟩)
theorem laws_FnExactDoorsOf.bndS {α : Type} {d : Kd α} {e base : Nat} {w : World} {v : Value} {xs : List α} (h : Kd.S d e w base (fun _ => True) v xs) : Kd.S d e w base (fun k_ => base ≤ k_ ∧ k_ < w.heap.size) v xs := Kd.S_mono (Kd.S_bound h) (fun _ hk => ⟨hk.2.1, hk.2.2.1⟩)
theorem laws_FnExactDoorsOf.held (k : Nat) (A : Option Addr) (c : Nat) (tl nq : List (List Int)) (q : Int) (w : World) {base : Nat} {ok : Nat → Prop} (h : Kd.S (Kd.slice 3 (Kd.int .i64)) 36 w base ok (.slice A tl.length c) nq) (hq : laws_heldIntSS.f k nq 1 = some q) : Calls Try.prog 27 #[.slice A tl.length c, .int .i64 1] w fun e w' => e = .returned (.int .i64 q) ∧ Drawn0 w w' := by
 have hr := Kd.S_reads' h
 have hc : nq.length ≤ c := hr.1 ▸ hr.2.1
 rw [hr.1]
 exact laws_heldIntSS.calls k A c nq 1 q w hr.2.2 hc hq
theorem laws_FnExactDoorsOf.drn {w w' : World} (h : Drawn0 w w') : Below w.heap.size w w' := by obtain ⟨n, rfl⟩ := h; exact pw_below_drewN (Below.refl _ _) n
set_option maxHeartbeats 8000000 in
set_option maxRecDepth 100000 in
theorem laws_FnExactDoorsOf.wide (k : Nat) (A0_0 : Option Addr) (c0_0 : Nat) (l0_0 : List (S51)) (A0_1 : Option Addr) (c0_1 : Nat) (l0_1 : List (List Int)) (A1 : Option Addr) (c1 : Nat) (l1 : List Int) (w : World) (hr0_0 : Kd.C k51 w A0_0 l0_0.length l0_0) (hc0_0 : l0_0.length ≤ c0_0) (hr0_1 : Kd.C (Kd.slice 3 (Kd.int .i64)) w A0_1 l0_1.length l0_1) (hc0_1 : l0_1.length ≤ c0_1) (hr1 : Kd.C (Kd.int .i64) w A1 l1.length l1) (hc1 : l1.length ≤ c1) (hn : (1048576 : Int) < (l1.length : Int)) :
  Calls Try.prog 6 #[.agg #[.slice A0_0 l0_0.length c0_0, .slice A0_1 l0_1.length c0_1], .slice A1 l1.length c1] w fun e w' => e = .returned (.bool true) ∧ Below w.heap.size w w' := by
 have d1 : decide ((1048576 : Int) < (l1.length : Int)) = true := decide_eq_true hn
 have d2 : decide (1048576 < l1.length) = true := decide_eq_true (by omega)
 clear hr0_0 hr0_1 hr1 hn
 have HB := Aside0.mk (Below.refl w.heap.size w)
 go_enter Try.func6, Try.ntmps6
 go_wp2_with (first | ((with_reducible refine gate_dst (N := 2) rfl ?_); refine box_event ?hg (N := 2) ?hd (cs := #[.slice A0_0 l0_0.length c0_0, .slice A0_1 l0_1.length c0_1]) (t := 25) ?hr ?_; (case hd => rfl); (case hg => rfl); (case hr => first | (go_simp; done) | (go_simp; rfl)); intro gA hg w1 hbox hb; have BA := Aside0.mk hbox; have QB := Aside0.mk hb; have QG := Aside0.mk hg; clear hb hbox hg))
 go_ret
 exact ⟨rfl, below_step HB.out QB.out⟩
set_option maxHeartbeats 8000000 in
set_option maxRecDepth 100000 in
theorem laws_FnExactDoorsOf.small (k : Nat) (A0_0 : Option Addr) (c0_0 : Nat) (l0_0 : List (S51)) (A0_1 : Option Addr) (c0_1 : Nat) (l0_1 : List (List Int)) (A1 : Option Addr) (c1 : Nat) (l1 : List Int) (v : Int) (w : World) (hr0_0 : Kd.C k51 w A0_0 l0_0.length l0_0) (hc0_0 : l0_0.length ≤ c0_0) (hr0_1 : Kd.C (Kd.slice 3 (Kd.int .i64)) w A0_1 l0_1.length l0_1) (hc0_1 : l0_1.length ≤ c0_1) (hr1 : Kd.C (Kd.int .i64) w A1 l1.length l1) (hc1 : l1.length ≤ c1) (hx : ¬ (1048576 : Int) < (l1.length : Int)) (hv : laws_szGround.f k l0_0 l0_1 1048576 = some v) (hn : v < 0) :
  Calls Try.prog 6 #[.agg #[.slice A0_0 l0_0.length c0_0, .slice A0_1 l0_1.length c0_1], .slice A1 l1.length c1] w fun e w' => e = .returned (.bool true) ∧ Below w.heap.size w w' := by
 have hu25 := Try.underlying25
 have hu30 := Try.underlying30
 have R0 := Aside0.mk hr0_0
 have R1 := Aside0.mk hr0_1
 have RF := Aside0.mk hr1
 clear hr0_0 hr0_1 hr1
 have V := Aside0.mk hv
 have d0 : decide ((1048576 : Int) < (l1.length : Int)) = false := decide_eq_false hx
 have d00 : decide (1048576 < l1.length) = false := decide_eq_false (by omega)
 have d1 : decide (v < 0) = true := decide_eq_true hn
 clear hv hn hx
 go_enter Try.func6, Try.ntmps6
 go_upto_region 4 with (first | ((with_reducible refine gate_dst (N := 2) rfl ?_); refine box_event ?hg (N := 2) ?hd (cs := #[.slice A0_0 l0_0.length c0_0, .slice A0_1 l0_1.length c0_1]) (t := 25) ?hr ?_; (case hd => rfl); (case hg => rfl); (case hr => first | (go_simp; done) | (go_simp; rfl)); intro gA hg w1 hbox hb; have BA := Aside0.mk hbox; have QB := Aside0.mk hb; have QG := Aside0.mk hg; clear hb hbox hg))
 have S1 : Aside0 (laws_FnExactDoorsOf.St w w1 gA (.cells #[.slice A0_0 l0_0.length c0_0, .slice A0_1 l0_1.length c0_1] 25 (0, 0))) := ⟨⟨QB.out, BA.out⟩⟩
 obtain ⟨hz0, hz1⟩ := S1.out.cells
 clear QB QG BA
 go_wp2_with fail
 refine (laws_szGround.calls k _ _ l0_0 _ _ l0_1 1048576 v _ (Kd.C_below R0.out S1.out.hB) hc0_0 (Kd.C_below R1.out S1.out.hB) hc0_1 V.out).mono ?_
 rintro e w2 ⟨rfl, hb⟩
 have S2 := Aside0.mk (S1.out.step hb)
 clear hb hz0 hz1 S1
 go_wp2
 go_ret
 exact ⟨rfl, S2.out.hB⟩
set_option maxHeartbeats 32000000 in
set_option maxRecDepth 100000 in
theorem laws_FnExactDoorsOf.long (k : Nat) (A0_0 : Option Addr) (c0_0 : Nat) (l0_0 : List (S51)) (A0_1 : Option Addr) (c0_1 : Nat) (l0_1 : List (List Int)) (A1 : Option Addr) (c1 : Nat) (l1 : List Int) (v : Int) (g1 : List (S54)) (g2 : List (List Int)) (f : List Int) (sl : List (List Int)) (b : Bool) (tl : List (List Int)) (m m2 : Int) (fm : List Int) (nq : List (List Int)) (q : Int) (w : World) (hr0_0 : Kd.C k51 w A0_0 l0_0.length l0_0) (hc0_0 : l0_0.length ≤ c0_0) (hr0_1 : Kd.C (Kd.slice 3 (Kd.int .i64)) w A0_1 l0_1.length l0_1) (hc0_1 : l0_1.length ≤ c0_1) (hr1 : Kd.C (Kd.int .i64) w A1 l1.length l1) (hc1 : l1.length ≤ c1) (hx : ¬ (1048576 : Int) < (l1.length : Int)) (hv : laws_szGround.f k l0_0 l0_1 1048576 = some v) (hn : ¬ v < 0) (hg : laws_toGround.f k l0_0 l0_1 = some (g1, g2)) (hf : laws_toIntS.f k l1 = some f) (hs : spec_DoorsOf.f k g1 g2 f = some (sl, b)) (ht : impl_DoorsOf.f k g1 g2 f = some (tl, b)) (h1 : laws_eqIntSS.f k tl sl = some true) (h2 : laws_eqGround.f k g1 g2 g1 g2 = some true) (h3 : laws_eqIntS.f k f f = some true) (hm : laws_markGround.f k g1 g2 1 = some m) (hp : laws_markIntS.f k f m = some (m2, fm)) (hm0 : ¬ m2 < 0) (hk : laws_markIntSS.f k tl 1 = some (q, nq)) (hq : laws_heldIntSS.f k nq 1 = some q) (hq0 : ¬ q < 0) :
  Calls Try.prog 6 #[.agg #[.slice A0_0 l0_0.length c0_0, .slice A0_1 l0_1.length c0_1], .slice A1 l1.length c1] w fun e w' => e = .returned (.bool true) ∧ Below w.heap.size w w' := by
 have hu25 := Try.underlying25
 have hu30 := Try.underlying30
 have R0 := Aside0.mk hr0_0
 have R1 := Aside0.mk hr0_1
 have RF := Aside0.mk hr1
 clear hr0_0 hr0_1 hr1
 have V := Aside0.mk hv
 have TG := Aside0.mk hg
 have TF := Aside0.mk hf
 have SPEC := Aside0.mk hs
 have IMPL := Aside0.mk ht
 have E1 := Aside0.mk h1
 have E2 := Aside0.mk h2
 have E3 := Aside0.mk h3
 have MG := Aside0.mk hm
 have MF := Aside0.mk hp
 have MK := Aside0.mk hk
 have HD := Aside0.mk hq
 have d0 : decide ((1048576 : Int) < (l1.length : Int)) = false := decide_eq_false hx
 have d00 : decide (1048576 < l1.length) = false := decide_eq_false (by omega)
 have d1 : decide (v < 0) = false := decide_eq_false hn
 have d2 : decide (m2 < 0) = false := decide_eq_false hm0
 have d3 : decide (q < 0) = false := decide_eq_false hq0
 have d4 : (q != q) = false := bne_self_eq_false q
 have d5 : (b != b) = false := bne_self_eq_false b
 clear hv hg hf hs ht h1 h2 h3 hm hp hk hq hn hm0 hq0 hx
 go_enter Try.func6, Try.ntmps6
 go_upto_region 4 with (first | ((with_reducible refine gate_dst (N := 2) rfl ?_); refine box_event ?hg (N := 2) ?hd (cs := #[.slice A0_0 l0_0.length c0_0, .slice A0_1 l0_1.length c0_1]) (t := 25) ?hr ?_; (case hd => rfl); (case hg => rfl); (case hr => first | (go_simp; done) | (go_simp; rfl)); intro gA hg w1 hbox hb; have BA := Aside0.mk hbox; have QB := Aside0.mk hb; have QG := Aside0.mk hg; clear hb hbox hg))
 have S1 : Aside0 (laws_FnExactDoorsOf.St w w1 gA (.cells #[.slice A0_0 l0_0.length c0_0, .slice A0_1 l0_1.length c0_1] 25 (0, 0))) := ⟨⟨QB.out, BA.out⟩⟩
 have GZ := Aside0.mk (show w.heap.size ≤ gA from Nat.le_of_eq QG.out.symm)
 obtain ⟨hz0, hz1⟩ := S1.out.cells
 clear QB QG BA
 go_wp2_with fail
 refine (laws_szGround.calls k _ _ l0_0 _ _ l0_1 1048576 v _ (Kd.C_below R0.out S1.out.hB) hc0_0 (Kd.C_below R1.out S1.out.hB) hc0_1 V.out).mono ?_
 rintro e w2 ⟨rfl, hb⟩
 have S2 := Aside0.mk (S1.out.step hb)
 clear hb hz0 hz1 S1
 obtain ⟨hz0, hz1⟩ := S2.out.cells
 go_wp2_with fail
 refine (laws_toGround.calls k _ _ l0_0 _ _ l0_1 g1 g2 _ (Kd.C_below R0.out S2.out.hB) hc0_0 (Kd.C_below R1.out S2.out.hB) hc0_1 TG.out).mono ?_
 rintro e w3 ⟨u0, u1, rfl, ho0, ho1, hb⟩
 obtain ⟨B0, k0, rfl⟩ := Kd.R_slice ho0
 obtain ⟨B1, k1, rfl⟩ := Kd.S_slice ho1
 have X0 := Aside0.mk ho0
 have X1 := Aside0.mk ho1
 have S3 := Aside0.mk (S2.out.step hb)
 clear hb hz0 hz1 S2 ho0 ho1
 go_wp2_with fail
 refine (laws_toIntS.calls k _ _ l1 f _ (Kd.C_below RF.out S3.out.hB) hc1 TF.out).mono ?_
 rintro e w30 ⟨u2, rfl, ho2, hb⟩
 obtain ⟨BF, kf, rfl⟩ := Kd.R_slice ho2
 have XF := Aside0.mk ho2
 have Y0 := Aside0.mk (Kd.R_below X0.out hb)
 have Y1 := Aside0.mk (Kd.S_below X1.out hb)
 have S30 := Aside0.mk (S3.out.step hb)
 clear hb S3 X0 X1 ho2
 go_wp2_with fail
 refine (spec_DoorsOf.calls k _ _ g1 _ _ g2 _ _ f sl b _ (Kd.R_reads' Y0.out).2.2 (Kd.R_reads' Y0.out).2.1 (Kd.S_reads' Y1.out).2.2 (Kd.S_reads' Y1.out).2.1 (Kd.R_reads' XF.out).2.2 (Kd.R_reads' XF.out).2.1 SPEC.out).mono ?_
 rintro e w4 ⟨u2, rfl, ho0, hb⟩
 obtain ⟨BW, kw, rfl⟩ := Kd.S_slice ho0
 have OW := Aside0.mk (Kd.S_mono (laws_FnExactDoorsOf.bndS ho0) (ok' := fun k_ => k_ < w4.heap.size) (fun _ hk => hk.2))
 have S4 := Aside0.mk (S30.out.step hb)
 have GA := Aside0.mk (blk_lt S4.out.bA)
 clear hb ho0 Y0 Y1 XF S30
 obtain ⟨hz0, hz1⟩ := S4.out.cells
 go_wp2_with fail
 refine (laws_toGround.calls k _ _ l0_0 _ _ l0_1 g1 g2 _ (Kd.C_below R0.out S4.out.hB) hc0_0 (Kd.C_below R1.out S4.out.hB) hc0_1 TG.out).mono ?_
 rintro e w5 ⟨u0, u1, rfl, ho0, ho1, hb⟩
 obtain ⟨B0, k0, rfl⟩ := Kd.R_slice ho0
 obtain ⟨B1, k1, rfl⟩ := Kd.S_slice ho1
 have L5 := Aside0.mk hb.size
 have X0 := Aside0.mk (Kd.R_lower (laws_FnExactDoorsOf.bnd ho0) (below_size S4.out.hB))
 have X1 := Aside0.mk (Kd.S_lower (laws_FnExactDoorsOf.bndS ho1) (below_size S4.out.hB))
 have S5 := Aside0.mk (S4.out.step hb)
 have n_ := Aside0.mk (Kd.S_below OW.out hb)
 clear OW
 have OW := n_
 have Z5 := Aside0.mk (below_size S5.out.hB)
 clear n_ hb hz0 hz1 S4 ho0 ho1
 go_upto_region 9 with (first | ((with_reducible refine gate_dst (N := 8) rfl ?_); refine box_event ?hg (N := 8) ?hd (cs := #[.slice none 0 0, .slice none 0 0]) (t := 30) ?hr ?_; (case hd => rfl); (case hg => rfl); (case hr => first | (go_simp; done) | (go_simp; rfl)); intro g8 hg w6 hbox hb; have BX := Aside0.mk hbox; have QB := Aside0.mk hb; have QG := Aside0.mk hg; clear hb hbox hg; have hy0 : w6.cell? ⟨g8, 0, none⟩ = some (.slice none 0 0) := (blk_cell BX.out 0).trans rfl; have hy1 : w6.cell? ⟨g8, 1, none⟩ = some (.slice none 0 0) := (blk_cell BX.out 1).trans rfl; have hf0 := blk_frozen BX.out 0; have hf1 := blk_frozen BX.out 1))
 have hb := QB.out
 have G8 := Aside0.mk (show w5.heap.size ≤ g8 from Nat.le_of_eq QG.out.symm)
 have N8 := Aside0.mk (show gA ≠ g8 from by have := blk_lt S5.out.bA; have := QG.out; omega)
 have S6 := Aside0.mk (S5.out.step hb)
 have P0 := Aside0.mk (Kd.S_below OW.out hb)
 have P1 := Aside0.mk (Kd.R_below X0.out hb)
 have P2 := Aside0.mk (Kd.S_below X1.out hb)
 clear OW X0 X1 S5 hy0 hy1 hf0 hf1 hb QB QG
 have m0 : Aside0 (laws_FnExactDoorsOf.St w ((w6.setCell ⟨g8, 0, none⟩ (.slice B0 g1.length k0)).setCell ⟨g8, 1, none⟩ (.slice B1 g2.length k1)) gA (.cells #[.slice A0_0 l0_0.length c0_0, .slice A0_1 l0_1.length c0_1] 25 (0, 0))) := ⟨⟨below_set (below_set S6.out.hB (Nat.le_trans Z5.out G8.out)) (Nat.le_trans Z5.out G8.out), blk_far (blk_far S6.out.bA N8.out _) N8.out _⟩⟩
 have m1 : Aside0 (((w6.setCell ⟨g8, 0, none⟩ (.slice B0 g1.length k0)).setCell ⟨g8, 1, none⟩ (.slice B1 g2.length k1)).heap[g8]? = some (.cells #[.slice B0 g1.length k0, .slice B1 g2.length k1] 30 (0, 0))) := ⟨blk_put (cs := #[.slice B0 g1.length k0, .slice none 0 0]) (blk_put (cs := #[.slice none 0 0, .slice none 0 0]) BX.out 0 _ rfl) 1 _ rfl⟩
 have m2 : Aside0 (Kd.S (Kd.slice 3 (Kd.int .i64)) 36 ((w6.setCell ⟨g8, 0, none⟩ (.slice B0 g1.length k0)).setCell ⟨g8, 1, none⟩ (.slice B1 g2.length k1)) _ (fun k_ => k_ < w4.heap.size) (.slice BW sl.length kw) sl) := ⟨Kd.S_far (p := ⟨g8, 1, none⟩) (Kd.S_far (p := ⟨g8, 0, none⟩) P0.out (fun k_ hk he => by have h1_ := L5.out; have h2_ := G8.out; have h3_ : k_ = g8 := he; omega) _) (fun k_ hk he => by have h1_ := L5.out; have h2_ := G8.out; have h3_ : k_ = g8 := he; omega) _⟩
 have m3 : Aside0 (Kd.R k54 54 ((w6.setCell ⟨g8, 0, none⟩ (.slice B0 g1.length k0)).setCell ⟨g8, 1, none⟩ (.slice B1 g2.length k1)) w.heap.size (fun k_ => w4.heap.size ≤ k_ ∧ k_ < w5.heap.size) (.slice B0 g1.length k0) g1) := ⟨Kd.R_far (p := ⟨g8, 1, none⟩) (Kd.R_far (p := ⟨g8, 0, none⟩) P1.out (fun k_ hk he => by have h1_ := hk.2; have h2_ := G8.out; have h3_ : k_ = g8 := he; omega) _) (fun k_ hk he => by have h1_ := hk.2; have h2_ := G8.out; have h3_ : k_ = g8 := he; omega) _⟩
 have m4 : Aside0 (Kd.S (Kd.slice 3 (Kd.int .i64)) 36 ((w6.setCell ⟨g8, 0, none⟩ (.slice B0 g1.length k0)).setCell ⟨g8, 1, none⟩ (.slice B1 g2.length k1)) w.heap.size (fun k_ => w4.heap.size ≤ k_ ∧ k_ < w5.heap.size) (.slice B1 g2.length k1) g2) := ⟨Kd.S_far (p := ⟨g8, 1, none⟩) (Kd.S_far (p := ⟨g8, 0, none⟩) P2.out (fun k_ hk he => by have h1_ := hk.2; have h2_ := G8.out; have h3_ : k_ = g8 := he; omega) _) (fun k_ hk he => by have h1_ := hk.2; have h2_ := G8.out; have h3_ : k_ = g8 := he; omega) _⟩
 have m5 : Aside0 (w5.heap.size ≤ ((w6.setCell ⟨g8, 0, none⟩ (.slice B0 g1.length k0)).setCell ⟨g8, 1, none⟩ (.slice B1 g2.length k1)).heap.size) := ⟨Nat.le_trans G8.out (Nat.le_of_lt (blk_lt m1.out))⟩
 clear P0 P1 P2 S6 BX
 generalize ((w6.setCell ⟨g8, 0, none⟩ (.slice B0 g1.length k0)).setCell ⟨g8, 1, none⟩ (.slice B1 g2.length k1)) = wG at m0 m1 m2 m3 m4 m5 ⊢
 go_wp2_with fail
 refine (laws_toIntS.calls k _ _ l1 f _ (Kd.C_below RF.out m0.out.hB) hc1 TF.out).mono ?_
 rintro e w60 ⟨u2, rfl, ho2, hb⟩
 obtain ⟨BF, kf, rfl⟩ := Kd.R_slice ho2
 have L6 := Aside0.mk hb.size
 have o6 := Aside0.mk (Kd.R_lower (laws_FnExactDoorsOf.bnd ho2) (below_size m0.out.hB))
 have o0 := Aside0.mk (m0.out.step hb)
 have o1 := Aside0.mk (blk_below m1.out hb)
 have o2 := Aside0.mk (Kd.S_below m2.out hb)
 have o3 := Aside0.mk (Kd.R_below m3.out hb)
 have o4 := Aside0.mk (Kd.S_below m4.out hb)
 clear m0 m1 m2 m3 m4 hb ho2
 have hx0 : w60.cell? ⟨g8, 0, none⟩ = some (.slice B0 g1.length k0) := (blk_cell o1.out 0).trans rfl
 have hx1 : w60.cell? ⟨g8, 1, none⟩ = some (.slice B1 g2.length k1) := (blk_cell o1.out 1).trans rfl
 go_wp2_with fail
 refine (impl_DoorsOf.calls k _ _ g1 _ _ g2 _ _ f tl b _ (Kd.R_reads' o3.out).2.2 (Kd.R_reads' o3.out).2.1 (Kd.S_reads' o4.out).2.2 (Kd.S_reads' o4.out).2.1 (Kd.R_reads' o6.out).2.2 (Kd.R_reads' o6.out).2.1 IMPL.out).mono ?_
 rintro e w7 ⟨u2, rfl, ho0, hb⟩
 obtain ⟨BG, kg, rfl⟩ := Kd.S_slice ho0
 have OG := Aside0.mk (Kd.S_lower (Kd.S_mono (laws_FnExactDoorsOf.bndS ho0) (ok' := fun k_ => w60.heap.size ≤ k_) (fun _ hk => hk.1)) (below_size o0.out.hB))
 have S7 := Aside0.mk (o0.out.step hb)
 have BX := Aside0.mk (blk_below o1.out hb)
 have OW := Aside0.mk (Kd.S_below o2.out hb)
 have X0 := Aside0.mk (Kd.R_below o3.out hb)
 have X1 := Aside0.mk (Kd.S_below o4.out hb)
 have XF := Aside0.mk (Kd.R_below o6.out hb)
 clear ho0 o0 o1 o2 o3 o4 o6 hb hx0 hx1
 go_wp2_with fail
 refine (laws_eqIntSS.calls k _ _ tl _ _ sl true _ (Kd.S_reads' OG.out).2.2 (Kd.S_reads' OG.out).2.1 (Kd.S_reads' OW.out).2.2 (Kd.S_reads' OW.out).2.1 E1.out).mono ?_
 rintro e w8 ⟨rfl, hdr⟩
 have hb := laws_FnExactDoorsOf.drn hdr
 have S8 := Aside0.mk (S7.out.step hb)
 have n1 := Aside0.mk (blk_below BX.out hb)
 have n2 := Aside0.mk (Kd.S_below OW.out hb)
 have n3 := Aside0.mk (Kd.R_below X0.out hb)
 have n4 := Aside0.mk (Kd.S_below X1.out hb)
 have n5 := Aside0.mk (Kd.S_below OG.out hb)
 have n0 := Aside0.mk (Kd.R_below XF.out hb)
 clear S7 BX OW X0 X1 OG XF hb hdr
 obtain ⟨hz0, hz1⟩ := S8.out.cells
 have hx0 : w8.cell? ⟨g8, 0, none⟩ = some (.slice B0 g1.length k0) := (blk_cell n1.out 0).trans rfl
 have hx1 : w8.cell? ⟨g8, 1, none⟩ = some (.slice B1 g2.length k1) := (blk_cell n1.out 1).trans rfl
 go_upto_region 13 with fail
 go_region_held3 (fun w' => w'.cell? ⟨g8, 0, none⟩ = some (.slice B0 g1.length k0) ∧ w'.cell? ⟨g8, 1, none⟩ = some (.slice B1 g2.length k1) ∧ w'.cell? ⟨gA, 0, none⟩ = some (.slice A0_0 l0_0.length c0_0) ∧ w'.cell? ⟨gA, 1, none⟩ = some (.slice A0_1 l0_1.length c0_1)) (exact ⟨hx0, hx1, hz0, hz1⟩)
  (first
   | (go_at_call 11; refine (laws_toGround.calls k _ _ l0_0 _ _ l0_1 g1 g2 _ (Kd.C_below R0.out (below_drew S8.out.hB)) hc0_0 (Kd.C_below R1.out (below_drew S8.out.hB)) hc0_1 TG.out).mono ?_; rintro e w9 ⟨u0, u1, rfl, ho0, ho1, hb0⟩; obtain ⟨B2, k2, rfl⟩ := Kd.R_slice ho0; obtain ⟨B3, k3, rfl⟩ := Kd.S_slice ho1; have Y0 := Aside0.mk ho0; have Y1 := Aside0.mk ho1; have S9 := Aside0.mk ((S8.out.step (below_drew (Below.refl _ _))).step hb0); have n6 := Aside0.mk (blk_below (blk_drew n1.out) hb0); have n7 := Aside0.mk (Kd.S_below (Kd.S_drew n2.out) hb0); have n8 := Aside0.mk (Kd.R_below (Kd.R_drew n3.out) hb0); have n9 := Aside0.mk (Kd.S_below (Kd.S_drew n4.out) hb0); have n10 := Aside0.mk (Kd.S_below (Kd.S_drew n5.out) hb0); have n11 := Aside0.mk (Kd.R_below (Kd.R_drew n0.out) hb0); clear S8 n0 n1 n2 n3 n4 n5 hb0 ho0 ho1 hz0 hz1 hx0 hx1; obtain ⟨hz0, hz1⟩ := S9.out.cells; have hx0 : w9.cell? ⟨g8, 0, none⟩ = some (.slice B0 g1.length k0) := (blk_cell n6.out 0).trans rfl; have hx1 : w9.cell? ⟨g8, 1, none⟩ = some (.slice B1 g2.length k1) := (blk_cell n6.out 1).trans rfl)
   | (go_at_call 13; refine (laws_eqGround.calls k _ _ g1 _ _ g2 _ _ g1 _ _ g2 true _ (Kd.R_reads' n8.out).2.2 (Kd.R_reads' n8.out).2.1 (Kd.S_reads' n9.out).2.2 (Kd.S_reads' n9.out).2.1 (Kd.R_reads' Y0.out).2.2 (Kd.R_reads' Y0.out).2.1 (Kd.S_reads' Y1.out).2.2 (Kd.S_reads' Y1.out).2.1 E2.out).mono ?_; rintro e w10 ⟨rfl, hb⟩; have S10 := Aside0.mk (S9.out.step hb); have p1 := Aside0.mk (blk_below n6.out hb); have p2 := Aside0.mk (Kd.S_below n7.out hb); have p3 := Aside0.mk (Kd.R_below n8.out hb); have p4 := Aside0.mk (Kd.S_below n9.out hb); have p5 := Aside0.mk (Kd.S_below n10.out hb); have p6 := Aside0.mk (Kd.R_below n11.out hb); clear S9 n6 n7 n8 n9 n10 n11 Y0 Y1 hb hz0 hz1 hx0 hx1; obtain ⟨hz0, hz1⟩ := S10.out.cells; have hx0 : w10.cell? ⟨g8, 0, none⟩ = some (.slice B0 g1.length k0) := (blk_cell p1.out 0).trans rfl; have hx1 : w10.cell? ⟨g8, 1, none⟩ = some (.slice B1 g2.length k1) := (blk_cell p1.out 1).trans rfl))
 go_wp2_with fail
 refine (laws_toIntS.calls k _ _ l1 f _ (Kd.C_below RF.out S10.out.hB) hc1 TF.out).mono ?_
 rintro e w100 ⟨u2, rfl, ho2, hb⟩
 obtain ⟨BE, ke, rfl⟩ := Kd.R_slice ho2
 have Y6 := Aside0.mk ho2
 have o0 := Aside0.mk (S10.out.step hb)
 have o1 := Aside0.mk (blk_below p1.out hb)
 have o2 := Aside0.mk (Kd.S_below p2.out hb)
 have o3 := Aside0.mk (Kd.R_below p3.out hb)
 have o4 := Aside0.mk (Kd.S_below p4.out hb)
 have o5 := Aside0.mk (Kd.S_below p5.out hb)
 have o6 := Aside0.mk (Kd.R_below p6.out hb)
 clear S10 p1 p2 p3 p4 p5 p6 hb ho2 hz0 hz1 hx0 hx1
 go_wp2_with fail
 refine (laws_eqIntS.calls k _ _ f _ _ f true _ (Kd.R_reads' o6.out).2.2 (Kd.R_reads' o6.out).2.1 (Kd.R_reads' Y6.out).2.2 (Kd.R_reads' Y6.out).2.1 E3.out).mono ?_
 rintro e w101 ⟨rfl, hdr⟩
 have hb := laws_FnExactDoorsOf.drn hdr
 have S10 := Aside0.mk (o0.out.step hb)
 have p1 := Aside0.mk (blk_below o1.out hb)
 have p2 := Aside0.mk (Kd.S_below o2.out hb)
 have p3 := Aside0.mk (Kd.R_below o3.out hb)
 have p4 := Aside0.mk (Kd.S_below o4.out hb)
 have p5 := Aside0.mk (Kd.S_below o5.out hb)
 have p6 := Aside0.mk (Kd.R_below o6.out hb)
 clear o0 o1 o2 o3 o4 o5 o6 Y6 hb hdr
 have hx0 : w101.cell? ⟨g8, 0, none⟩ = some (.slice B0 g1.length k0) := (blk_cell p1.out 0).trans rfl
 have hx1 : w101.cell? ⟨g8, 1, none⟩ = some (.slice B1 g2.length k1) := (blk_cell p1.out 1).trans rfl
 go_wp2_with fail
 refine (laws_markGround.calls k _ _ _ _ g1 g2 1 m w _ S10.out.hB p3.out p4.out MG.out).mono ?_
 rintro e w11 ⟨rfl, hB, hKp⟩
 have S11 : Aside0 (laws_FnExactDoorsOf.St w w11 gA (.cells #[.slice A0_0 l0_0.length c0_0, .slice A0_1 l0_1.length c0_1] 25 (0, 0))) := ⟨⟨hB, blk_kept S10.out.bA hKp (fun hs => by have h1_ := GA.out; rcases hs with h2_ | h2_ <;> omega)⟩⟩
 have OW := Aside0.mk (Kd.S_kept p2.out hKp (fun k_ hk hs => by rcases hs with h2_ | h2_ <;> omega))
 have OG := Aside0.mk (Kd.S_kept p5.out hKp (fun k_ hk hs => by have h3_ := m5.out; have h4_ := L6.out; rcases hs with h2_ | h2_ <;> omega))
 have XF := Aside0.mk (Kd.R_kept p6.out hKp (fun k_ hk hs => by have h3_ := m5.out; rcases hs with h2_ | h2_ <;> omega))
 clear S10 p1 p2 p3 p4 p5 p6 hB hKp hx0 hx1
 go_wp2_with fail
 refine (laws_markIntS.calls k _ _ f m m2 fm w _ S11.out.hB XF.out MF.out).mono ?_
 rintro e w111 ⟨rfl, _, hB, hKp⟩
 have S111 : Aside0 (laws_FnExactDoorsOf.St w w111 gA (.cells #[.slice A0_0 l0_0.length c0_0, .slice A0_1 l0_1.length c0_1] 25 (0, 0))) := ⟨⟨hB, blk_kept S11.out.bA hKp (fun hs => by have h1_ := GA.out; have h3_ := m5.out; have h4_ := L5.out; omega)⟩⟩
 have o2 := Aside0.mk (Kd.S_kept OW.out hKp (fun k_ hk hs => by have h3_ := m5.out; have h4_ := L5.out; omega))
 have o5 := Aside0.mk (Kd.S_kept OG.out hKp (fun k_ hk hs => by omega))
 clear S11 OW OG XF hB hKp
 go_wp2_with fail
 refine (laws_eqIntSS.calls k _ _ tl _ _ sl true _ (Kd.S_reads' o5.out).2.2 (Kd.S_reads' o5.out).2.1 (Kd.S_reads' o2.out).2.2 (Kd.S_reads' o2.out).2.1 E1.out).mono ?_
 rintro e w12 ⟨rfl, hdr⟩
 have hb := laws_FnExactDoorsOf.drn hdr
 have S12 := Aside0.mk (S111.out.step hb)
 have n1 := Aside0.mk (Kd.S_below o2.out hb)
 have n2 := Aside0.mk (Kd.S_below o5.out hb)
 clear S111 o2 o5 hb hdr
 go_wp2_with fail
 refine (laws_markIntSS.calls k _ _ tl 1 q nq w _ S12.out.hB n2.out MK.out).mono ?_
 rintro e w13 ⟨rfl, hR, hB, hKp⟩
 have S13 : Aside0 (laws_FnExactDoorsOf.St w w13 gA (.cells #[.slice A0_0 l0_0.length c0_0, .slice A0_1 l0_1.length c0_1] 25 (0, 0))) := ⟨⟨hB, blk_kept S12.out.bA hKp (fun hs => by have h1_ := GA.out; have h2_ := L5.out; have h3_ := m5.out; have h4_ := L6.out; omega)⟩⟩
 have OW := Aside0.mk (Kd.S_kept n1.out hKp (fun k_ hk hs => by have h2_ := L5.out; have h3_ := m5.out; have h4_ := L6.out; omega))
 have OG := Aside0.mk hR
 clear S12 n1 n2 hB hKp hR
 go_wp2_with fail
 refine (laws_FnExactDoorsOf.held k _ _ tl nq q _ OG.out HD.out).mono ?_
 rintro e w14 ⟨rfl, hdr⟩
 have hb := laws_FnExactDoorsOf.drn hdr
 have S14 := Aside0.mk (S13.out.step hb)
 have n1 := Aside0.mk (Kd.S_below OW.out hb)
 have n2 := Aside0.mk (Kd.S_below OG.out hb)
 clear S13 OW OG hb hdr
 obtain ⟨hz0, hz1⟩ := S14.out.cells
 go_wp2_with fail
 refine (laws_toGround.calls k _ _ l0_0 _ _ l0_1 g1 g2 _ (Kd.C_below R0.out S14.out.hB) hc0_0 (Kd.C_below R1.out S14.out.hB) hc0_1 TG.out).mono ?_
 rintro e w15 ⟨u0, u1, rfl, ho0, ho1, hb⟩
 obtain ⟨B2, k2, rfl⟩ := Kd.R_slice ho0
 obtain ⟨B3, k3, rfl⟩ := Kd.S_slice ho1
 have X0 := Aside0.mk ho0
 have X1 := Aside0.mk ho1
 have S15 := Aside0.mk (S14.out.step hb)
 have n3 := Aside0.mk (Kd.S_below n1.out hb)
 have n4 := Aside0.mk (Kd.S_below n2.out hb)
 clear S14 n1 n2 hb ho0 ho1 hz0 hz1
 go_wp2_with fail
 refine (laws_toIntS.calls k _ _ l1 f _ (Kd.C_below RF.out S15.out.hB) hc1 TF.out).mono ?_
 rintro e w150 ⟨u2, rfl, ho2, hb⟩
 obtain ⟨BD, kd, rfl⟩ := Kd.R_slice ho2
 have XF := Aside0.mk ho2
 have Y0 := Aside0.mk (Kd.R_below X0.out hb)
 have Y1 := Aside0.mk (Kd.S_below X1.out hb)
 have S150 := Aside0.mk (S15.out.step hb)
 have o3 := Aside0.mk (Kd.S_below n3.out hb)
 have o4 := Aside0.mk (Kd.S_below n4.out hb)
 clear S15 n3 n4 hb ho2 X0 X1
 go_wp2_with fail
 refine (impl_DoorsOf.calls k _ _ g1 _ _ g2 _ _ f tl b _ (Kd.R_reads' Y0.out).2.2 (Kd.R_reads' Y0.out).2.1 (Kd.S_reads' Y1.out).2.2 (Kd.S_reads' Y1.out).2.1 (Kd.R_reads' XF.out).2.2 (Kd.R_reads' XF.out).2.1 IMPL.out).mono ?_
 rintro e w16 ⟨u2, rfl, ho0, hb⟩
 obtain ⟨BH, kh, rfl⟩ := Kd.S_slice ho0
 have OH := Aside0.mk ho0
 have S16 := Aside0.mk (S150.out.step hb)
 have n5 := Aside0.mk (Kd.S_below o3.out hb)
 have n6 := Aside0.mk (Kd.S_below o4.out hb)
 clear S150 o3 o4 hb ho0 Y0 Y1 XF
 go_wp2_with fail
 refine (laws_eqIntSS.calls k _ _ tl _ _ sl true _ (Kd.S_reads' OH.out).2.2 (Kd.S_reads' OH.out).2.1 (Kd.S_reads' n5.out).2.2 (Kd.S_reads' n5.out).2.1 E1.out).mono ?_
 rintro e w17 ⟨rfl, hdr⟩
 have hb := laws_FnExactDoorsOf.drn hdr
 have S17 := Aside0.mk (S16.out.step hb)
 have n7 := Aside0.mk (Kd.S_below n6.out hb)
 clear S16 OH n5 n6 hb hdr
 go_wp2_with fail
 refine (laws_FnExactDoorsOf.held k _ _ tl nq q _ n7.out HD.out).mono ?_
 rintro e w18 ⟨rfl, hdr⟩
 have S18 := Aside0.mk (S17.out.step (laws_FnExactDoorsOf.drn hdr))
 clear S17 n7 hdr
 go_wp2
 go_ret
 exact ⟨rfl, S18.out.hB⟩
theorem laws_FnExactDoorsOf.calls (k : Nat) (A0_0 : Option Addr) (c0_0 : Nat) (l0_0 : List (S51)) (A0_1 : Option Addr) (c0_1 : Nat) (l0_1 : List (List Int)) (A1 : Option Addr) (c1 : Nat) (l1 : List Int) (r : Bool) (w : World) (hr0_0 : Kd.C k51 w A0_0 l0_0.length l0_0) (hc0_0 : l0_0.length ≤ c0_0) (hr0_1 : Kd.C (Kd.slice 3 (Kd.int .i64)) w A0_1 l0_1.length l0_1) (hc0_1 : l0_1.length ≤ c0_1) (hr1 : Kd.C (Kd.int .i64) w A1 l1.length l1) (hc1 : l1.length ≤ c1) (h : laws_FnExactDoorsOf.f k l0_0 l0_1 l1 = some r) :
  Calls Try.prog 6 #[.agg #[.slice A0_0 l0_0.length c0_0, .slice A0_1 l0_1.length c0_1], .slice A1 l1.length c1] w fun e w' => e = .returned (.bool r) ∧ Below w.heap.size w w' := by
 unfold laws_FnExactDoorsOf.f at h
 by_cases hx : (1048576 : Int) < (l1.length : Int)
 ·rw [if_pos hx] at h
  obtain rfl := Option.some.inj h
  exact laws_FnExactDoorsOf.wide k A0_0 c0_0 l0_0 A0_1 c0_1 l0_1 A1 c1 l1 w hr0_0 hc0_0 hr0_1 hc0_1 hr1 hc1 hx
 rw [if_neg hx] at h
 obtain ⟨v, hv, h⟩ := Option.bind_eq_some_iff.mp h
 by_cases hn : v < 0
 ·rw [if_pos hn] at h
  obtain rfl := Option.some.inj h
  exact laws_FnExactDoorsOf.small k A0_0 c0_0 l0_0 A0_1 c0_1 l0_1 A1 c1 l1 v w hr0_0 hc0_0 hr0_1 hc0_1 hr1 hc1 hx hv hn
 rw [if_neg hn] at h
 obtain ⟨⟨g1, g2⟩, hg, h⟩ := Option.bind_eq_some_iff.mp h
 obtain ⟨f, hf, h⟩ := Option.bind_eq_some_iff.mp h
 obtain ⟨⟨sl, sb⟩, hs, h⟩ := Option.bind_eq_some_iff.mp h
 obtain ⟨⟨tl, tb⟩, ht, h⟩ := Option.bind_eq_some_iff.mp h
 obtain ⟨e1, h1, h⟩ := Option.bind_eq_some_iff.mp h
 obtain ⟨e2, h2, h⟩ := Option.bind_eq_some_iff.mp h
 obtain ⟨e3, h3, h⟩ := Option.bind_eq_some_iff.mp h
 obtain ⟨m, hm, h⟩ := Option.bind_eq_some_iff.mp h
 obtain ⟨⟨m2, fm⟩, hp, h⟩ := Option.bind_eq_some_iff.mp h
 obtain ⟨⟨n1, n2⟩, hk, h⟩ := Option.bind_eq_some_iff.mp h
 obtain ⟨q, hq, h⟩ := Option.bind_eq_some_iff.mp h
 split at h
 case isFalse => cases h
 case isTrue hc =>
  obtain rfl := Option.some.inj h
  obtain ⟨c1_, c2_, c3_, c4_, c5_, c6_, c7_⟩ := hc
  dsimp only at c4_ c5_ c6_ hs ht h1 h2 h3 hm hp hk hq
  subst c1_ c2_ c3_ c4_ c6_
  exact laws_FnExactDoorsOf.long k A0_0 c0_0 l0_0 A0_1 c0_1 l0_1 A1 c1 l1 v g1 g2 f sl tb tl m m2 fm n2 q w hr0_0 hc0_0 hr0_1 hc0_1 hr1 hc1 hx hv hn hg hf hs ht h1 h2 h3 hm hp c5_ hk hq c7_

end Go.Proofs.Ytnfcpbajngccoaa.PFnExactDoorsOf
