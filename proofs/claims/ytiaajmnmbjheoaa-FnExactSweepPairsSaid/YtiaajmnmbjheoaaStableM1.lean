/- slices.symMergeCmpFunc at elements of one cell: what the merge leaves in the row. No condition beyond what each says. -/
import Derived.Test.YtiaajmnmbjheoaaStableK1
namespace Go.Proofs.Ytiaajmnmbjheoaa.Stable1
open Go.Shelf Go.RowKit Go.Lib Go.Sort Go.Proofs.Ytiaajmnmbjheoaa.Stable
set_option linter.unusedVariables false
set_option linter.unusedSimpArgs false
theorem lt_down' {lt : Nat → Nat → Bool} (hS : SWO lt) {x y z : Nat} (h : lt x y = true) (h2 : lt x z = false) : lt z y = true := lt_down hS h h2
section
variable {P : Program} {enc : Nat → Value} {blk off : Nat} {d0 : Array Nat} {w0 : World} {cf : Nat → Nat → Int}
set_option maxHeartbeats 8000000 in
set_option maxRecDepth 1000000 in
theorem symUp (L : Lay1 P) (hO : SWO (ltOf cf)) (g : Nat) (cb : Array Value) (cap a m b : Nat) (d : Array Nat) (w : World) (eg : ∀ args w, (callFunc g args).run P w = .ok (.enter g args) w) (hcmp : CmpLays1 P g cb enc cf blk off d.size w0) (R : Row1 enc w0 blk off d0) (hs : d0.size = d.size) (S : SW enc w0 blk off d w)
    (ham : a < m) (hmb : m < b) (hb : b ≤ d.size) (hsz : d.size < 4611686018427387904) (hA : Asc (ltOf cf) a m d) (hB : Asc (ltOf cf) m b d) (hX : Cross a m b d) (hone : m = a + 1) :
    Calls P 133 #[.slice (some ⟨blk, off, none⟩) d.size cap, .int .i64 a, .int .i64 m, .int .i64 b, .func (.func g) #[] cb] w fun e w' => e = .returned (.tuple #[]) ∧ ∃ d', Merged (ltOf cf) a b d d' ∧ SW enc w0 blk off d' w' := by
  have mixed := L.mixed; have t0 := L.t0; have a0 := L.a0; have z0 := L.z0; have v0 := L.v0; have t3 := L.t3; have a3 := L.a3; have z3 := L.z3; have v3 := L.v3; have t4 := L.t4; have a4 := L.a4; have z4 := L.z4; have v4 := L.v4; have tR := L.tR; have aR := L.aR; have zR := L.zR; have vR := L.vR; have tC := L.tC; have aC := L.aC; have zC := L.zC; have vC := L.vC; have tU := L.tU; have aU := L.aU; have zU := L.zU; have vU := L.vU; have uR := run_underlying L.tR
  have hcl0 := R.hO.cells
  simp only [Value.cells] at hcl0
  have hst := R.hO.store P
  have FG := L.fSym
  have HC : Aside (CmpLays1 P g cb enc cf blk off d.size w0) := hcmp
  have S0 : Aside (SW enc w0 blk off d w) := S
  have PA : Hid (Asc (ltOf cf) a m d) := hA
  have PB : Hid (Asc (ltOf cf) m b d) := hB
  have PX : Hid (Cross a m b d) := hX
  have PO : Hid (SWO (ltOf cf)) := hO
  clear S hcmp hA hB hX hO
  have z0_ : (m : Int) - (a : Int) = 1 := by omega
  have H1 : Hid (m = a + 1) := hone
  clear hone
  go_enter FG, Try.ntmps133
  go_wp2
  go_loopg [10, 11] (b - m) (fun kx s10 s11 wr => ∃ (i j : Nat), s10 = .int .i64 i ∧ s11 = .int .i64 j ∧ m ≤ i ∧ i ≤ j ∧ j ≤ b ∧ j - i ≤ kx ∧ Aside (SW enc w0 blk off d wr) ∧ Hid ((∀ h, m ≤ h → h < i → ltOf cf d[h]! d[a]! = true) ∧ ∀ h, j ≤ h → h < b → ltOf cf d[h]! d[a]! = false))
  case atStart => exact ⟨m, b, rfl, rfl, Nat.le_refl _, by omega, Nat.le_refl _, Nat.le_refl _, S0, ⟨fun h h1 h2 => by omega, fun h h1 h2 => by omega⟩⟩
  case round =>
    clear S0
    obtain ⟨i, j, rfl, rfl, hmi, hij, hjb, hkx, S1, I⟩ := hrel
    by_cases hlt : i < j
    · have hltz : (i : Int) < (j : Int) := by omega
      obtain ⟨h, hh⟩ : ∃ h : Nat, h = (i + j) / 2 := ⟨_, rfl⟩
      have hz : ((i : Int) + (j : Int)) / 2 = (h : Int) := by omega
      have hih : i ≤ h := by omega
      have hhj : h < j := by omega
      clear hh
      obtain ⟨iN4, hiN4⟩ : ∃ z_, z_ = h := ⟨_, rfl⟩
      obtain ⟨jN4, hjN4⟩ : ∃ z_, z_ = a := ⟨_, rfl⟩
      have ea4 : ((h : Int)).toNat = iN4 := by omega
      have pa4 : (0 : Int) ≤ (h : Int) := by omega
      have ba4 : (h : Int) < (d.size : Int) := by omega
      have ra4 : IntKind.i64.wrap ((h : Int)) = (h : Int) := by rw [IntKind.wrap_i64]; omega
      have ec4 : ((a : Int)).toNat = jN4 := by omega
      have pc4 : (0 : Int) ≤ (a : Int) := by omega
      have bc4 : (a : Int) < (d.size : Int) := by omega
      have rc4 : IntKind.i64.wrap ((a : Int)) = (a : Int) := by rw [IntKind.wrap_i64]; omega
      obtain ⟨x4, hx4⟩ : ∃ x, x = d[h]! := ⟨_, rfl⟩
      obtain ⟨y4, hy4⟩ : ∃ x, x = d[a]! := ⟨_, rfl⟩
      have l4a : ∀ (n : Nat) (os : Array Obj), (grow (wr.drewN n) os).cell? ⟨blk, off + iN4, none⟩ = some (enc x4) := by rw [hiN4, hx4]; exact S1.out.cl R (by omega) (h) (by omega)
      have l4b : ∀ (n : Nat) (os : Array Obj), (grow (wr.drewN n) os).cell? ⟨blk, off + jN4, none⟩ = some (enc y4) := by rw [hjN4, hy4]; exact S1.out.cl R (by omega) (a) (by omega)
      have hc4 := S1.out.cmp HC.out (by omega) x4 y4
      by_cases hv4 : cf x4 y4 < 0
      · have hd4 : decide (cf x4 y4 < 0) = true := decide_eq_true hv4
        have HV : Hid (ltOf cf d[h]! d[a]! = true) := by show _ = _; rw [← hx4, ← hy4]; exact decide_eq_true hv4
        clear hx4 hy4 hiN4 hjN4
        go_wp2_with fail
        go_quiet_grown (first | (go_at_fn g; refine Calls.grown_of (hc4 _ _)))
        have SV : Aside (SW enc w0 blk off d (grow (wr.drewN nq) osq)) := S1.out.grown nq osq
        clear l4a l4b hc4 S1
        generalize grow (wr.drewN nq) osq = wv at SV ⊢
        clear nq osq
        clear ea4 ec4
        go_wp2
        go_roundg (j - (h + 1))
        case measure => omega
        case rel =>
          have I2 : Hid ((∀ t, m ≤ t → t < h + 1 → ltOf cf d[t]! d[a]! = true) ∧ ∀ t, j ≤ t → t < b → ltOf cf d[t]! d[a]! = false) := ⟨fun t t1 t2 => lt_down' PO.out HV.out (PB.out.le_not PO.out t1 (Nat.le_of_lt_succ t2) (by omega)), I.out.2⟩
          exact ⟨h + 1, j, by go_num, rfl, by omega, by omega, hjb, Nat.le_refl _, SV, I2⟩
      · have hd4 : decide (cf x4 y4 < 0) = false := decide_eq_false hv4
        have HV : Hid (ltOf cf d[h]! d[a]! = false) := by show _ = _; rw [← hx4, ← hy4]; exact decide_eq_false hv4
        clear hx4 hy4 hiN4 hjN4
        go_wp2_with fail
        go_quiet_grown (first | (go_at_fn g; refine Calls.grown_of (hc4 _ _)))
        have SV : Aside (SW enc w0 blk off d (grow (wr.drewN nq) osq)) := S1.out.grown nq osq
        clear l4a l4b hc4 S1
        generalize grow (wr.drewN nq) osq = wv at SV ⊢
        clear nq osq
        clear ea4 ec4
        go_wp2
        go_roundg (h - i)
        case measure => omega
        case rel =>
          have I2 : Hid ((∀ t, m ≤ t → t < i → ltOf cf d[t]! d[a]! = true) ∧ ∀ t, h ≤ t → t < b → ltOf cf d[t]! d[a]! = false) := ⟨I.out.1, fun t t1 t2 => PO.out.ntrans _ _ _ (PB.out.le_not PO.out (by omega) t1 t2) HV.out⟩
          exact ⟨i, h, rfl, rfl, hmi, by omega, by omega, Nat.le_refl _, SV, I2⟩
    · have hltz : ¬ (i : Int) < (j : Int) := by omega
      obtain rfl : j = i := by omega
      have x1 : (j : Int) - 1 = ((j - 1 : Nat) : Int) := by omega
      go_wp2
      go_loopg [13] (j - 1 - a) (fun kx s13 wr => ∃ (q : Nat) (dk : Array Nat), s13 = .int .i64 q ∧ a ≤ q ∧ q ≤ j - 1 ∧ j - 1 - q ≤ kx ∧ dk.size = d.size ∧ Hid (Mv (rotf a (a + 1) (q + 1)) a b d dk) ∧ Aside (SW enc w0 blk off dk wr))
      case atStart => exact ⟨a, d, rfl, Nat.le_refl _, by omega, Nat.le_refl _, rfl, ((Mv.refl a b d).as (fun x => (rot_none (by omega) x).symm)), S1⟩
      case round =>
        clear S1
        obtain ⟨q, dk, rfl, haq, hqj, hkq, hds, hm, S3⟩ := hrel
        by_cases hlq : q < j - 1
        · have hlqz : (q : Int) < ((j - 1 : Nat) : Int) := by omega
          go_wp2_with fail
          obtain ⟨iN4, hiN4⟩ : ∃ z_, z_ = q := ⟨_, rfl⟩
          obtain ⟨jN4, hjN4⟩ : ∃ z_, z_ = q + 1 := ⟨_, rfl⟩
          have ea4 : ((q : Int)).toNat = iN4 := by omega
          have pa4 : (0 : Int) ≤ (q : Int) := by omega
          have ba4 : (q : Int) < (d.size : Int) := by omega
          have ra4 : IntKind.i64.wrap ((q : Int)) = (q : Int) := by rw [IntKind.wrap_i64]; omega
          have ec4 : (((q : Int) + 1)).toNat = jN4 := by omega
          have pc4 : (0 : Int) ≤ ((q : Int) + 1) := by omega
          have bc4 : ((q : Int) + 1) < (d.size : Int) := by omega
          have rc4 : IntKind.i64.wrap (((q : Int) + 1)) = ((q : Int) + 1) := by rw [IntKind.wrap_i64]; omega
          obtain ⟨x4, hx4⟩ : ∃ x, x = dk[q]! := ⟨_, rfl⟩
          obtain ⟨y4, hy4⟩ : ∃ x, x = dk[q + 1]! := ⟨_, rfl⟩
          have M2 : Hid (Mv (rotf a (a + 1) (q + 2)) a b d (swp dk (q) (q + 1))) := (hm.out.trans (Mv.swp dk (lo := a) (hi := b) (i := q) (j := q + 1) (by omega) (by omega) (by omega) (by omega) (by omega))).as (fun x => rot_up (by omega) x)
          obtain ⟨dn, hdn⟩ : ∃ z_, z_ = swp dk (q) (q + 1) := ⟨_, rfl⟩
          rw [← hdn] at M2
          have S2 : Aside (SW enc w0 blk off dn ((wr.setCell ⟨blk, off + iN4, none⟩ (enc y4)).setCell ⟨blk, off + jN4, none⟩ (enc x4)).drew) := by rw [hdn, hiN4, hjN4, hx4, hy4]; exact S3.out.swapped R (q) (q + 1) (by omega) (by omega)
          have c4a : wr.cell? ⟨blk, off + iN4, none⟩ = some (enc x4) := by rw [hiN4, hx4]; exact S3.out.c1 R (by omega) (q) (by omega)
          have c4b : wr.cell? ⟨blk, off + jN4, none⟩ = some (enc y4) := by rw [hjN4, hy4]; exact S3.out.c1 R (by omega) (q + 1) (by omega)
          have f4a : wr.frozen? ⟨blk, off + iN4, none⟩ = false := by rw [hiN4]; exact S3.out.f1 R (by omega) (q) (by omega)
          have f4b : wr.frozen? ⟨blk, off + jN4, none⟩ = false := by rw [hjN4]; exact S3.out.f1 R (by omega) (q + 1) (by omega)
          obtain ⟨u4, c4c⟩ : ∃ u, (wr.setCell ⟨blk, off + iN4, none⟩ (enc y4)).cell? ⟨blk, off + jN4, none⟩ = some u := by rw [hiN4, hjN4]; exact S3.out.c2 R (by omega) (q) (q + 1) (by omega) (by omega) (enc y4)
          clear S3 hm hx4 hy4 hiN4 hjN4 hdn
          go_big_region_o
          clear c4a c4b c4c f4a f4b
          generalize ((wr.setCell ⟨blk, off + iN4, none⟩ (enc y4)).setCell ⟨blk, off + jN4, none⟩ (enc x4)).drew = w2 at S2 ⊢
          clear ea4 ec4
          go_wp2
          go_roundg (j - 1 - (q + 1))
          case measure => omega
          case rel => exact ⟨q + 1, dn, by go_num, by omega, by omega, Nat.le_refl _, M2.out.size, M2, S2⟩
        · have hlqz : ¬ (q : Int) < ((j - 1 : Nat) : Int) := by omega
          have hq : q + 1 = j := by omega
          have M3 : Hid (Merged (ltOf cf) a b d dk) := merged_up PO.out (i := j) (by omega) hjb (by have := PB.out; rw [H1.out] at this; exact this) (by have := PX.out; rw [H1.out] at this; exact this) (by have := I.out.1; rw [H1.out] at this; exact this) I.out.2 hb (by have := hm.out; rw [hq] at this; exact this)
          go_wp2
          (try simp only [Exit.inBlock, Exit.then]); refine bodyPost_ret (results_none rfl _ _ _) rfl ?_
          exact ⟨rfl, dk, M3.out, S3.out⟩
set_option maxHeartbeats 8000000 in
set_option maxRecDepth 1000000 in
theorem symDown (L : Lay1 P) (hO : SWO (ltOf cf)) (g : Nat) (cb : Array Value) (cap a m b : Nat) (d : Array Nat) (w : World) (eg : ∀ args w, (callFunc g args).run P w = .ok (.enter g args) w) (hcmp : CmpLays1 P g cb enc cf blk off d.size w0) (R : Row1 enc w0 blk off d0) (hs : d0.size = d.size) (S : SW enc w0 blk off d w)
    (ham : a < m) (hmb : m < b) (hb : b ≤ d.size) (hsz : d.size < 4611686018427387904) (hA : Asc (ltOf cf) a m d) (hB : Asc (ltOf cf) m b d) (hX : Cross a m b d) (hone : b = m + 1) (hno : ¬ m = a + 1) :
    Calls P 133 #[.slice (some ⟨blk, off, none⟩) d.size cap, .int .i64 a, .int .i64 m, .int .i64 b, .func (.func g) #[] cb] w fun e w' => e = .returned (.tuple #[]) ∧ ∃ d', Merged (ltOf cf) a b d d' ∧ SW enc w0 blk off d' w' := by
  have mixed := L.mixed; have t0 := L.t0; have a0 := L.a0; have z0 := L.z0; have v0 := L.v0; have t3 := L.t3; have a3 := L.a3; have z3 := L.z3; have v3 := L.v3; have t4 := L.t4; have a4 := L.a4; have z4 := L.z4; have v4 := L.v4; have tR := L.tR; have aR := L.aR; have zR := L.zR; have vR := L.vR; have tC := L.tC; have aC := L.aC; have zC := L.zC; have vC := L.vC; have tU := L.tU; have aU := L.aU; have zU := L.zU; have vU := L.vU; have uR := run_underlying L.tR
  have hcl0 := R.hO.cells
  simp only [Value.cells] at hcl0
  have hst := R.hO.store P
  have FG := L.fSym
  have HC : Aside (CmpLays1 P g cb enc cf blk off d.size w0) := hcmp
  have S0 : Aside (SW enc w0 blk off d w) := S
  have PA : Hid (Asc (ltOf cf) a m d) := hA
  have PB : Hid (Asc (ltOf cf) m b d) := hB
  have PX : Hid (Cross a m b d) := hX
  have PO : Hid (SWO (ltOf cf)) := hO
  clear S hcmp hA hB hX hO
  have z0_ : (b : Int) - (m : Int) = 1 := by omega
  have z1_ : ((m : Int) - (a : Int) == 1) = false := beq_eq_false_iff_ne.2 (by omega)
  have z2_ : ¬ (m : Int) - (a : Int) = 1 := by omega
  have H1 : Hid (b = m + 1) := hone
  clear hone hno
  go_enter FG, Try.ntmps133
  go_wp2
  go_loopg [14, 15] (m - a) (fun kx s14 s15 wr => ∃ (i j : Nat), s14 = .int .i64 i ∧ s15 = .int .i64 j ∧ a ≤ i ∧ i ≤ j ∧ j ≤ m ∧ j - i ≤ kx ∧ Aside (SW enc w0 blk off d wr) ∧ Hid ((∀ h, a ≤ h → h < i → ltOf cf d[m]! d[h]! = false) ∧ ∀ h, j ≤ h → h < m → ltOf cf d[m]! d[h]! = true))
  case atStart => exact ⟨a, m, rfl, rfl, Nat.le_refl _, by omega, Nat.le_refl _, Nat.le_refl _, S0, ⟨fun h h1 h2 => by omega, fun h h1 h2 => by omega⟩⟩
  case round =>
    clear S0
    obtain ⟨i, j, rfl, rfl, hai, hij, hjm, hkx, S1, I⟩ := hrel
    by_cases hlt : i < j
    · have hltz : (i : Int) < (j : Int) := by omega
      obtain ⟨h, hh⟩ : ∃ h : Nat, h = (i + j) / 2 := ⟨_, rfl⟩
      have hz : ((i : Int) + (j : Int)) / 2 = (h : Int) := by omega
      have hih : i ≤ h := by omega
      have hhj : h < j := by omega
      clear hh
      obtain ⟨iN4, hiN4⟩ : ∃ z_, z_ = m := ⟨_, rfl⟩
      obtain ⟨jN4, hjN4⟩ : ∃ z_, z_ = h := ⟨_, rfl⟩
      have ea4 : ((m : Int)).toNat = iN4 := by omega
      have pa4 : (0 : Int) ≤ (m : Int) := by omega
      have ba4 : (m : Int) < (d.size : Int) := by omega
      have ra4 : IntKind.i64.wrap ((m : Int)) = (m : Int) := by rw [IntKind.wrap_i64]; omega
      have ec4 : ((h : Int)).toNat = jN4 := by omega
      have pc4 : (0 : Int) ≤ (h : Int) := by omega
      have bc4 : (h : Int) < (d.size : Int) := by omega
      have rc4 : IntKind.i64.wrap ((h : Int)) = (h : Int) := by rw [IntKind.wrap_i64]; omega
      obtain ⟨x4, hx4⟩ : ∃ x, x = d[m]! := ⟨_, rfl⟩
      obtain ⟨y4, hy4⟩ : ∃ x, x = d[h]! := ⟨_, rfl⟩
      have l4a : ∀ (n : Nat) (os : Array Obj), (grow (wr.drewN n) os).cell? ⟨blk, off + iN4, none⟩ = some (enc x4) := by rw [hiN4, hx4]; exact S1.out.cl R (by omega) (m) (by omega)
      have l4b : ∀ (n : Nat) (os : Array Obj), (grow (wr.drewN n) os).cell? ⟨blk, off + jN4, none⟩ = some (enc y4) := by rw [hjN4, hy4]; exact S1.out.cl R (by omega) (h) (by omega)
      have hc4 := S1.out.cmp HC.out (by omega) x4 y4
      by_cases hv4 : cf x4 y4 < 0
      · have hd4 : decide (cf x4 y4 < 0) = true := decide_eq_true hv4
        have HV : Hid (ltOf cf d[m]! d[h]! = true) := by show _ = _; rw [← hx4, ← hy4]; exact decide_eq_true hv4
        clear hx4 hy4 hiN4 hjN4
        go_wp2_with fail
        go_quiet_grown (first | (go_at_fn g; refine Calls.grown_of (hc4 _ _)))
        have SV : Aside (SW enc w0 blk off d (grow (wr.drewN nq) osq)) := S1.out.grown nq osq
        clear l4a l4b hc4 S1
        generalize grow (wr.drewN nq) osq = wv at SV ⊢
        clear nq osq
        clear ea4 ec4
        go_wp2
        go_roundg (h - i)
        case measure => omega
        case rel =>
          have I2 : Hid ((∀ t, a ≤ t → t < i → ltOf cf d[m]! d[t]! = false) ∧ ∀ t, h ≤ t → t < m → ltOf cf d[m]! d[t]! = true) := ⟨I.out.1, fun t t1 t2 => lt_up PO.out HV.out (PA.out.le_not PO.out (by omega) t1 t2)⟩
          exact ⟨i, h, rfl, rfl, hai, by omega, by omega, Nat.le_refl _, SV, I2⟩
      · have hd4 : decide (cf x4 y4 < 0) = false := decide_eq_false hv4
        have HV : Hid (ltOf cf d[m]! d[h]! = false) := by show _ = _; rw [← hx4, ← hy4]; exact decide_eq_false hv4
        clear hx4 hy4 hiN4 hjN4
        go_wp2_with fail
        go_quiet_grown (first | (go_at_fn g; refine Calls.grown_of (hc4 _ _)))
        have SV : Aside (SW enc w0 blk off d (grow (wr.drewN nq) osq)) := S1.out.grown nq osq
        clear l4a l4b hc4 S1
        generalize grow (wr.drewN nq) osq = wv at SV ⊢
        clear nq osq
        clear ea4 ec4
        go_wp2
        go_roundg (j - (h + 1))
        case measure => omega
        case rel =>
          have I2 : Hid ((∀ t, a ≤ t → t < h + 1 → ltOf cf d[m]! d[t]! = false) ∧ ∀ t, j ≤ t → t < m → ltOf cf d[m]! d[t]! = true) := ⟨fun t t1 t2 => PO.out.ntrans _ _ _ HV.out (PA.out.le_not PO.out t1 (Nat.le_of_lt_succ t2) (by omega)), I.out.2⟩
          exact ⟨h + 1, j, by go_num, rfl, by omega, by omega, hjm, Nat.le_refl _, SV, I2⟩
    · have hltz : ¬ (i : Int) < (j : Int) := by omega
      obtain rfl : j = i := by omega
      go_wp2
      go_loopg [17] (m - j) (fun kx s17 wr => ∃ (q : Nat) (dk : Array Nat), s17 = .int .i64 q ∧ j ≤ q ∧ q ≤ m ∧ q - j ≤ kx ∧ dk.size = d.size ∧ Hid (Mv (rotf q m (m + 1)) a b d dk) ∧ Aside (SW enc w0 blk off dk wr))
      case atStart => exact ⟨m, d, rfl, hjm, Nat.le_refl _, Nat.le_refl _, rfl, ((Mv.refl a b d).as (fun x => (rot_none' (by omega) x).symm)), S1⟩
      case round =>
        clear S1
        obtain ⟨q, dk, rfl, hjq, hqm, hkq, hds, hm, S3⟩ := hrel
        by_cases hlq : j < q
        · have hlqz : (j : Int) < (q : Int) := by omega
          have hlqd : decide ((q : Int) > (j : Int)) = true := decide_eq_true (by omega)
          obtain ⟨p, rfl⟩ : ∃ p, q = p + 1 := ⟨q - 1, by omega⟩
          have hwp : IntKind.i64.wrap (p : Int) = (p : Int) := by rw [IntKind.wrap_i64]; omega
          go_wp2_with fail
          obtain ⟨iN4, hiN4⟩ : ∃ z_, z_ = p + 1 := ⟨_, rfl⟩
          obtain ⟨jN4, hjN4⟩ : ∃ z_, z_ = p := ⟨_, rfl⟩
          have ea4 : (((p : Int) + 1)).toNat = iN4 := by omega
          have pa4 : (0 : Int) ≤ ((p : Int) + 1) := by omega
          have ba4 : ((p : Int) + 1) < (d.size : Int) := by omega
          have ra4 : IntKind.i64.wrap (((p : Int) + 1)) = ((p : Int) + 1) := by rw [IntKind.wrap_i64]; omega
          have ec4 : ((p : Int)).toNat = jN4 := by omega
          have pc4 : (0 : Int) ≤ (p : Int) := by omega
          have bc4 : (p : Int) < (d.size : Int) := by omega
          have rc4 : IntKind.i64.wrap ((p : Int)) = (p : Int) := by rw [IntKind.wrap_i64]; omega
          obtain ⟨x4, hx4⟩ : ∃ x, x = dk[p + 1]! := ⟨_, rfl⟩
          obtain ⟨y4, hy4⟩ : ∃ x, x = dk[p]! := ⟨_, rfl⟩
          have M2 : Hid (Mv (rotf p m (m + 1)) a b d (swp dk (p + 1) (p))) := (hm.out.trans (Mv.swp dk (lo := a) (hi := b) (i := p + 1) (j := p) (by omega) (by omega) (by omega) (by omega) (by omega))).as (fun x => rot_down (by omega) x)
          obtain ⟨dn, hdn⟩ : ∃ z_, z_ = swp dk (p + 1) (p) := ⟨_, rfl⟩
          rw [← hdn] at M2
          have S2 : Aside (SW enc w0 blk off dn ((wr.setCell ⟨blk, off + iN4, none⟩ (enc y4)).setCell ⟨blk, off + jN4, none⟩ (enc x4)).drew) := by rw [hdn, hiN4, hjN4, hx4, hy4]; exact S3.out.swapped R (p + 1) (p) (by omega) (by omega)
          have c4a : wr.cell? ⟨blk, off + iN4, none⟩ = some (enc x4) := by rw [hiN4, hx4]; exact S3.out.c1 R (by omega) (p + 1) (by omega)
          have c4b : wr.cell? ⟨blk, off + jN4, none⟩ = some (enc y4) := by rw [hjN4, hy4]; exact S3.out.c1 R (by omega) (p) (by omega)
          have f4a : wr.frozen? ⟨blk, off + iN4, none⟩ = false := by rw [hiN4]; exact S3.out.f1 R (by omega) (p + 1) (by omega)
          have f4b : wr.frozen? ⟨blk, off + jN4, none⟩ = false := by rw [hjN4]; exact S3.out.f1 R (by omega) (p) (by omega)
          obtain ⟨u4, c4c⟩ : ∃ u, (wr.setCell ⟨blk, off + iN4, none⟩ (enc y4)).cell? ⟨blk, off + jN4, none⟩ = some u := by rw [hiN4, hjN4]; exact S3.out.c2 R (by omega) (p + 1) (p) (by omega) (by omega) (enc y4)
          clear S3 hm hx4 hy4 hiN4 hjN4 hdn
          go_big_region_o
          clear c4a c4b c4c f4a f4b
          generalize ((wr.setCell ⟨blk, off + iN4, none⟩ (enc y4)).setCell ⟨blk, off + jN4, none⟩ (enc x4)).drew = w2 at S2 ⊢
          clear ea4 ec4
          go_wp2
          go_roundg (p - j)
          case measure => omega
          case rel => exact ⟨p, dn, by first | rfl | go_num | (congr 1; omega), by omega, by omega, Nat.le_refl _, M2.out.size, M2, S2⟩
        · have hlqz : ¬ (j : Int) < (q : Int) := by omega
          have hlqd : decide ((q : Int) > (j : Int)) = false := decide_eq_false (by omega)
          obtain rfl : q = j := by omega
          have M3 : Hid (Merged (ltOf cf) a b d dk) := by have e := H1.out; show Merged _ _ _ _ _; subst e; exact merged_down PO.out hai hjm PA.out PX.out I.out.1 I.out.2 hb hm.out
          go_wp2
          (try simp only [Exit.inBlock, Exit.then]); refine bodyPost_ret (results_none rfl _ _ _) rfl ?_
          exact ⟨rfl, dk, M3.out, S3.out⟩
theorem cut_of {lt : Nat → Nat → Bool} {a m b c s : Nat} {d : Array Nat} (ec : c = (a + b) / 2) (h1 : a ≤ s) (h2 : s ≤ m) (h3 : s ≤ c) (h4 : c + m ≤ b + s) (lo : a < s → c + m < b + s → lt d[c + m - 1 - (s - 1)]! d[s - 1]! = false) (hi : s < m → s < c → lt d[c + m - 1 - s]! d[s]! = true) : Cut lt a m b s d := by
  subst ec
  refine ⟨h1, h2, h3, by omega, h4, fun p q => ?_, fun p q => ?_⟩
  · have h_ := lo p q
    rw [show (a + b) / 2 + m - 1 - (s - 1) = (a + b) / 2 + m - s by omega] at h_
    exact h_
  · have h_ := hi p q
    rw [show (a + b) / 2 + m - 1 - s = (a + b) / 2 + m - s - 1 by omega] at h_
    exact h_
theorem right_as {lt : Nat → Nat → Bool} {a s c e b : Nat} {d d2 : Array Nat} (hH : Halves lt a s c e b d) (hp : PermIn a c d d2) (hce : c ≤ e) : Asc lt c e d2 ∧ Asc lt e b d2 ∧ Cross c e b d2 := by
  have q : ∀ i, c ≤ i → d2[i]! = d[i]! := fun i h => hp.2.1 i (.inr h)
  exact ⟨fun i j h1 h2 h3 => by rw [q i h1, q j (by omega)]; exact hH.b1 i j h1 h2 h3, fun i j h1 h2 h3 => by rw [q i (by omega), q j (by omega)]; exact hH.b2 i j h1 h2 h3, fun i j h1 h2 h3 h4 => by rw [q i h1, q j (by omega)]; exact hH.c2 i j h1 h2 h3 h4⟩
theorem merged_from {lt : Nat → Nat → Bool} {a b : Nat} {d d1 d2 : Array Nat} (h : PermIn a b d d1) (h2 : Merged lt a b d1 d2) : Merged lt a b d d2 := ⟨permIn_trans _ _ _ _ _ h h2.perm, h2.asc⟩
set_option maxHeartbeats 8000000 in
set_option maxRecDepth 1000000 in
theorem symBoth (L : Lay1 P) (hO : SWO (ltOf cf)) (g : Nat) (cb : Array Value) (cap a m b : Nat) (d : Array Nat) (w : World) (eg : ∀ args w, (callFunc g args).run P w = .ok (.enter g args) w) (hcmp : CmpLays1 P g cb enc cf blk off d.size w0) (R : Row1 enc w0 blk off d0) (hs : d0.size = d.size) (S : SW enc w0 blk off d w)
    (ham : a < m) (hmb : m < b) (hb : b ≤ d.size) (hsz : d.size < 4611686018427387904) (hA : Asc (ltOf cf) a m d) (hB : Asc (ltOf cf) m b d) (hX : Cross a m b d) (hno : ¬ m = a + 1) (hno2 : ¬ b = m + 1)
    (IH : ∀ (a' m' b' : Nat) (d' : Array Nat) (w' : World), b' - a' < b - a → d'.size = d.size → SW enc w0 blk off d' w' → a' < m' → m' < b' → b' ≤ d.size → Asc (ltOf cf) a' m' d' → Asc (ltOf cf) m' b' d' → Cross a' m' b' d' → Calls P 133 #[.slice (some ⟨blk, off, none⟩) d.size cap, .int .i64 a', .int .i64 m', .int .i64 b', .func (.func g) #[] cb] w' fun e w'' => e = .returned (.tuple #[]) ∧ ∃ d'', Merged (ltOf cf) a' b' d' d'' ∧ SW enc w0 blk off d'' w'') :
    Calls P 133 #[.slice (some ⟨blk, off, none⟩) d.size cap, .int .i64 a, .int .i64 m, .int .i64 b, .func (.func g) #[] cb] w fun e w' => e = .returned (.tuple #[]) ∧ ∃ d', Merged (ltOf cf) a b d d' ∧ SW enc w0 blk off d' w' := by
  have mixed := L.mixed; have t0 := L.t0; have a0 := L.a0; have z0 := L.z0; have v0 := L.v0; have t3 := L.t3; have a3 := L.a3; have z3 := L.z3; have v3 := L.v3; have t4 := L.t4; have a4 := L.a4; have z4 := L.z4; have v4 := L.v4; have tR := L.tR; have aR := L.aR; have zR := L.zR; have vR := L.vR; have tC := L.tC; have aC := L.aC; have zC := L.zC; have vC := L.vC; have tU := L.tU; have aU := L.aU; have zU := L.zU; have vU := L.vU; have uR := run_underlying L.tR
  have hcl0 := R.hO.cells
  simp only [Value.cells] at hcl0
  have hst := R.hO.store P
  have FG := L.fSym
  have HC : Aside (CmpLays1 P g cb enc cf blk off d.size w0) := hcmp
  have S0 : Aside (SW enc w0 blk off d w) := S
  have PA : Hid (Asc (ltOf cf) a m d) := hA
  have PB : Hid (Asc (ltOf cf) m b d) := hB
  have PX : Hid (Cross a m b d) := hX
  have PO : Hid (SWO (ltOf cf)) := hO
  clear S hcmp hA hB hX hO
  have HL : Aside (Lay1 P) := L
  have HI : Aside _ := IH
  have eM : ∀ args w, (callFunc 133 args).run P w = .ok (.enter 133 args) w := enters_of L.fSym (by kernel_rfl) rfl
  have eR : ∀ args w, (callFunc 154 args).run P w = .ok (.enter 154 args) w := enters_of L.fRot (by kernel_rfl) rfl
  have z1_ : ((m : Int) - (a : Int) == 1) = false := beq_eq_false_iff_ne.2 (by omega)
  have z2_ : ¬ (m : Int) - (a : Int) = 1 := by omega
  have z3_ : ((b : Int) - (m : Int) == 1) = false := beq_eq_false_iff_ne.2 (by omega)
  have z4_ : ¬ (b : Int) - (m : Int) = 1 := by omega
  obtain ⟨c, hc⟩ : ∃ c : Nat, c = (a + b) / 2 := ⟨_, rfl⟩
  have hzc : ((a : Int) + (b : Int)) / 2 = (c : Int) := by omega
  have k1 : a + b ≤ 2 * c + 1 := by omega
  have k2 : 2 * c ≤ a + b := by omega
  have EC : Hid (c = (a + b) / 2) := hc
  clear hc hno hno2 L IH
  go_enter FG, Try.ntmps133
  by_cases cm : c < m
  · have cmz : (c : Int) < (m : Int) := by omega
    have cmd : decide ((m : Int) > (c : Int)) = true := decide_eq_true (by omega)
    obtain ⟨s0, hs0⟩ : ∃ s0 : Nat, s0 = c + m - b := ⟨_, rfl⟩
    have hz0 : (c : Int) + (m : Int) - (b : Int) = (s0 : Int) := by omega
    have g0 : c + m = b + s0 := by omega
    clear hs0
    have g1 : a ≤ s0 := by omega
    have g2 : s0 ≤ c := by omega
    go_wp2
    go_loopg [20, 21] (c - s0) (fun kx s20 s21 wr => ∃ (s r : Nat), s20 = .int .i64 s ∧ s21 = .int .i64 r ∧ s0 ≤ s ∧ s ≤ r ∧ r ≤ c ∧ r - s ≤ kx ∧ Aside (SW enc w0 blk off d wr) ∧ Hid ((∀ t, s0 ≤ t → t < s → ltOf cf d[c + m - 1 - t]! d[t]! = false) ∧ ∀ t, r ≤ t → t < c → ltOf cf d[c + m - 1 - t]! d[t]! = true))
    case atStart => exact ⟨s0, c, rfl, rfl, Nat.le_refl _, g2, Nat.le_refl _, Nat.le_refl _, S0, ⟨fun h h1 h2 => by omega, fun h h1 h2 => by omega⟩⟩
    case round =>
      clear S0
      obtain ⟨s, r, rfl, rfl, hms, hsr, hrr, hkx, S1, I⟩ := hrel
      by_cases hlt : s < r
      · have hltz : (s : Int) < (r : Int) := by omega
        obtain ⟨h, hh⟩ : ∃ h : Nat, h = (s + r) / 2 := ⟨_, rfl⟩
        have hz : ((s : Int) + (r : Int)) / 2 = (h : Int) := by omega
        have hih : s ≤ h := by omega
        have hhj : h < r := by omega
        clear hh
        obtain ⟨q, hq⟩ : ∃ q : Nat, q = c + m - 1 - h := ⟨_, rfl⟩
        have hzq : (c : Int) + (m : Int) - 1 - (h : Int) = (q : Int) := by omega
        have hqm : m ≤ q := by omega
        have hqb : q < b := by omega
        have HQE : Hid (q = c + m - 1 - h) := hq
        clear hq
        obtain ⟨iN4, hiN4⟩ : ∃ z_, z_ = q := ⟨_, rfl⟩
        obtain ⟨jN4, hjN4⟩ : ∃ z_, z_ = h := ⟨_, rfl⟩
        have ea4 : ((q : Int)).toNat = iN4 := by omega
        have pa4 : (0 : Int) ≤ (q : Int) := by omega
        have ba4 : (q : Int) < (d.size : Int) := by omega
        have ra4 : IntKind.i64.wrap ((q : Int)) = (q : Int) := by rw [IntKind.wrap_i64]; omega
        have ec4 : ((h : Int)).toNat = jN4 := by omega
        have pc4 : (0 : Int) ≤ (h : Int) := by omega
        have bc4 : (h : Int) < (d.size : Int) := by omega
        have rc4 : IntKind.i64.wrap ((h : Int)) = (h : Int) := by rw [IntKind.wrap_i64]; omega
        obtain ⟨x4, hx4⟩ : ∃ x, x = d[q]! := ⟨_, rfl⟩
        obtain ⟨y4, hy4⟩ : ∃ x, x = d[h]! := ⟨_, rfl⟩
        have l4a : ∀ (n : Nat) (os : Array Obj), (grow (wr.drewN n) os).cell? ⟨blk, off + iN4, none⟩ = some (enc x4) := by rw [hiN4, hx4]; exact S1.out.cl R (by omega) (q) (by omega)
        have l4b : ∀ (n : Nat) (os : Array Obj), (grow (wr.drewN n) os).cell? ⟨blk, off + jN4, none⟩ = some (enc y4) := by rw [hjN4, hy4]; exact S1.out.cl R (by omega) (h) (by omega)
        have hc4 := S1.out.cmp HC.out (by omega) x4 y4
        by_cases hv4 : cf x4 y4 < 0
        · have hd4 : decide (cf x4 y4 < 0) = true := decide_eq_true hv4
          have HV : Hid (ltOf cf d[q]! d[h]! = true) := by show _ = _; rw [← hx4, ← hy4]; exact decide_eq_true hv4
          clear hx4 hy4 hiN4 hjN4
          go_wp2_with fail
          go_quiet_grown (first | (go_at_fn g; refine Calls.grown_of (hc4 _ _)))
          have SV : Aside (SW enc w0 blk off d (grow (wr.drewN nq) osq)) := S1.out.grown nq osq
          clear l4a l4b hc4 S1
          generalize grow (wr.drewN nq) osq = wv at SV ⊢
          clear nq osq
          clear ea4 ec4
          go_wp2
          go_roundg (h - s)
          case measure => omega
          case rel =>
            have I2 : Hid ((∀ t, s0 ≤ t → t < s → ltOf cf d[c + m - 1 - t]! d[t]! = false) ∧ ∀ t, h ≤ t → t < c → ltOf cf d[c + m - 1 - t]! d[t]! = true) := ⟨I.out.1, fun t t1 t2 => by have e_ := HQE.out; exact lt_down PO.out (lt_up PO.out HV.out (PA.out.le_not PO.out (by omega) t1 (by omega))) (PB.out.le_not PO.out (i := c + m - 1 - t) (j := q) (by omega) (by omega) hqb)⟩
            exact ⟨s, h, rfl, rfl, hms, by omega, by omega, Nat.le_refl _, SV, I2⟩
        · have hd4 : decide (cf x4 y4 < 0) = false := decide_eq_false hv4
          have HV : Hid (ltOf cf d[q]! d[h]! = false) := by show _ = _; rw [← hx4, ← hy4]; exact decide_eq_false hv4
          clear hx4 hy4 hiN4 hjN4
          go_wp2_with fail
          go_quiet_grown (first | (go_at_fn g; refine Calls.grown_of (hc4 _ _)))
          have SV : Aside (SW enc w0 blk off d (grow (wr.drewN nq) osq)) := S1.out.grown nq osq
          clear l4a l4b hc4 S1
          generalize grow (wr.drewN nq) osq = wv at SV ⊢
          clear nq osq
          clear ea4 ec4
          go_wp2
          go_roundg (r - (h + 1))
          case measure => omega
          case rel =>
            have I2 : Hid ((∀ t, s0 ≤ t → t < h + 1 → ltOf cf d[c + m - 1 - t]! d[t]! = false) ∧ ∀ t, r ≤ t → t < c → ltOf cf d[c + m - 1 - t]! d[t]! = true) := ⟨fun t t1 t2 => by have e_ := HQE.out; exact PO.out.ntrans _ _ _ (PO.out.ntrans _ _ _ (PB.out.le_not PO.out (i := q) (j := c + m - 1 - t) hqm (by omega) (by omega)) HV.out) (PA.out.le_not PO.out (by omega) (Nat.le_of_lt_succ t2) (by omega)), I.out.2⟩
            exact ⟨h + 1, r, by go_num, rfl, by omega, by omega, hrr, Nat.le_refl _, SV, I2⟩
      · have hltz : ¬ (s : Int) < (r : Int) := by omega
        obtain rfl : r = s := by omega
        obtain ⟨s, es⟩ : ∃ s, s = r := ⟨_, rfl⟩
        subst es
        obtain ⟨e, he⟩ : ∃ e : Nat, e = c + m - s := ⟨_, rfl⟩
        have hze : (c : Int) + (m : Int) - (s : Int) = (e : Int) := by omega
        have EE : Hid (e = c + m - s) := he
        have CUT : Hid (Cut (ltOf cf) a m b s d) := cut_of EC.out (by omega) (by omega) (by omega) (by omega) (fun h1 h2 => I.out.1 (s - 1) (by omega) (by omega)) (fun h1 h2 => I.out.2 s (Nat.le_refl _) (by omega))
        have f1 : s ≤ m := by omega
        have f2 : s ≤ c := by omega
        have f3 : e ≤ b := by omega
        have f4 : m ≤ e := by omega
        have f5 : e + s = c + m := by omega
        clear he I hlt hltz hkx
        by_cases p1 : s < m
        · by_cases p2 : m < e
          · by_cases p3 : a < s
            · by_cases p4 : e < b
              · have p1z : (s : Int) < (m : Int) := by omega
                have p2z : (m : Int) < (e : Int) := by omega
                have p3z : (a : Int) < (s : Int) := by omega
                have p4z : (e : Int) < (b : Int) := by omega
                have p5z : (s : Int) < (c : Int) := by omega
                have p6z : (c : Int) < (e : Int) := by omega
                have hcall := fun W (SW_ : SW enc w0 blk off d W) => rotate HL.out g cb cap s m e a b d W R hs SW_ (by omega) p1 p2 (by omega) hb hsz
                have HR : Aside _ := hcall
                clear hcall
                go_wp2_with fail
                refine (HR.out _ S1.out).mono ?_
                rintro e_ w1 ⟨rfl, d1, M1, S1_⟩
                have S2 : Aside (SW enc w0 blk off d1 w1) := S1_
                have M2 : Hid (Mv (rotf s m e) a b d d1) := M1
                clear M1 S1_ S1 HR
                have hd1 : Hid (d1.size = d.size) := M2.out.size
                have HH : Hid (Halves (ltOf cf) a s c e b d1) := by have h_ := halves PO.out ham hmb PA.out PB.out PX.out CUT.out (by rw [← EC.out, ← EE.out]; exact M2.out); rw [← EC.out, ← EE.out] at h_; exact h_
                have hI := HI.out
                have hcall := fun W (SW_ : SW enc w0 blk off d1 W) => hI a s c d1 W (by omega) hd1.out SW_ p3 (by omega) (by omega) HH.out.a1 HH.out.a2 HH.out.c1
                clear hI
                have HQ : Aside _ := hcall
                clear hcall
                go_wp2_with fail
                refine (HQ.out _ S2.out).mono ?_
                rintro e_ w2 ⟨rfl, d2, M1, S1_⟩
                have S3 : Aside (SW enc w0 blk off d2 w2) := S1_
                have ML : Hid (Merged (ltOf cf) a c d1 d2) := M1
                clear M1 S1_ S2 HQ
                have hd2 : Hid (d2.size = d.size) := ML.out.perm.1.trans hd1.out
                have RT : Hid (Asc (ltOf cf) c e d2 ∧ Asc (ltOf cf) e b d2 ∧ Cross c e b d2) := right_as HH.out ML.out.perm (by omega)
                have hI := HI.out
                have hcall := fun W (SW_ : SW enc w0 blk off d2 W) => hI c e b d2 W (by omega) hd2.out SW_ (by omega) p4 hb RT.out.1 RT.out.2.1 RT.out.2.2
                clear hI
                have HQ : Aside _ := hcall
                clear hcall
                go_wp2_with fail
                refine (HQ.out _ S3.out).mono ?_
                rintro e_ w3 ⟨rfl, d3, M1, S1_⟩
                have S4 : Aside (SW enc w0 blk off d3 w3) := S1_
                have MR : Hid (Merged (ltOf cf) c b d2 d3) := M1
                clear M1 S1_ S3 HQ
                have MF : Hid (Merged (ltOf cf) a b d d3) := merged_from M2.out.perm (merged_both PO.out (by omega) (by omega) (by have h_ := hd1.out; omega) HH.out ML.out MR.out)
                go_wp2
                all_goals go_end0
                all_goals exact ⟨rfl, d3, MF.out, S4.out⟩
              · have p1z : (s : Int) < (m : Int) := by omega
                have p2z : (m : Int) < (e : Int) := by omega
                have p3z : (a : Int) < (s : Int) := by omega
                have p4z : ¬ (e : Int) < (b : Int) := by omega
                have p5z : (s : Int) < (c : Int) := by omega
                have p6z : (c : Int) < (e : Int) := by omega
                have hcall := fun W (SW_ : SW enc w0 blk off d W) => rotate HL.out g cb cap s m e a b d W R hs SW_ (by omega) p1 p2 (by omega) hb hsz
                have HR : Aside _ := hcall
                clear hcall
                go_wp2_with fail
                refine (HR.out _ S1.out).mono ?_
                rintro e_ w1 ⟨rfl, d1, M1, S1_⟩
                have S2 : Aside (SW enc w0 blk off d1 w1) := S1_
                have M2 : Hid (Mv (rotf s m e) a b d d1) := M1
                clear M1 S1_ S1 HR
                have hd1 : Hid (d1.size = d.size) := M2.out.size
                have HH : Hid (Halves (ltOf cf) a s c e b d1) := by have h_ := halves PO.out ham hmb PA.out PB.out PX.out CUT.out (by rw [← EC.out, ← EE.out]; exact M2.out); rw [← EC.out, ← EE.out] at h_; exact h_
                have hI := HI.out
                have hcall := fun W (SW_ : SW enc w0 blk off d1 W) => hI a s c d1 W (by omega) hd1.out SW_ p3 (by omega) (by omega) HH.out.a1 HH.out.a2 HH.out.c1
                clear hI
                have HQ : Aside _ := hcall
                clear hcall
                go_wp2_with fail
                refine (HQ.out _ S2.out).mono ?_
                rintro e_ w2 ⟨rfl, d2, M1, S1_⟩
                have S3 : Aside (SW enc w0 blk off d2 w2) := S1_
                have ML : Hid (Merged (ltOf cf) a c d1 d2) := M1
                clear M1 S1_ S2 HQ
                have hd2 : Hid (d2.size = d.size) := ML.out.perm.1.trans hd1.out
                have RT : Hid (Asc (ltOf cf) c e d2 ∧ Asc (ltOf cf) e b d2 ∧ Cross c e b d2) := right_as HH.out ML.out.perm (by omega)
                have MR : Hid (Merged (ltOf cf) c b d2 d2) := merged_left (by omega) (by omega) RT.out.1 RT.out.2.1 (by omega)
                have MF : Hid (Merged (ltOf cf) a b d d2) := merged_from M2.out.perm (merged_both PO.out (by omega) (by omega) (by have h_ := hd1.out; omega) HH.out ML.out MR.out)
                go_wp2
                all_goals go_end0
                all_goals exact ⟨rfl, d2, MF.out, S3.out⟩
            · by_cases p4 : e < b
              · have p1z : (s : Int) < (m : Int) := by omega
                have p2z : (m : Int) < (e : Int) := by omega
                have p3z : ¬ (a : Int) < (s : Int) := by omega
                have p4z : (e : Int) < (b : Int) := by omega
                have p5z : (s : Int) < (c : Int) := by omega
                have p6z : (c : Int) < (e : Int) := by omega
                have hcall := fun W (SW_ : SW enc w0 blk off d W) => rotate HL.out g cb cap s m e a b d W R hs SW_ (by omega) p1 p2 (by omega) hb hsz
                have HR : Aside _ := hcall
                clear hcall
                go_wp2_with fail
                refine (HR.out _ S1.out).mono ?_
                rintro e_ w1 ⟨rfl, d1, M1, S1_⟩
                have S2 : Aside (SW enc w0 blk off d1 w1) := S1_
                have M2 : Hid (Mv (rotf s m e) a b d d1) := M1
                clear M1 S1_ S1 HR
                have hd1 : Hid (d1.size = d.size) := M2.out.size
                have HH : Hid (Halves (ltOf cf) a s c e b d1) := by have h_ := halves PO.out ham hmb PA.out PB.out PX.out CUT.out (by rw [← EC.out, ← EE.out]; exact M2.out); rw [← EC.out, ← EE.out] at h_; exact h_
                have ML : Hid (Merged (ltOf cf) a c d1 d1) := merged_left (by omega) (by omega) HH.out.a1 HH.out.a2 (by omega)
                have hd2 : Hid (d1.size = d.size) := ML.out.perm.1.trans hd1.out
                have RT : Hid (Asc (ltOf cf) c e d1 ∧ Asc (ltOf cf) e b d1 ∧ Cross c e b d1) := right_as HH.out ML.out.perm (by omega)
                have hI := HI.out
                have hcall := fun W (SW_ : SW enc w0 blk off d1 W) => hI c e b d1 W (by omega) hd2.out SW_ (by omega) p4 hb RT.out.1 RT.out.2.1 RT.out.2.2
                clear hI
                have HQ : Aside _ := hcall
                clear hcall
                go_wp2_with fail
                refine (HQ.out _ S2.out).mono ?_
                rintro e_ w3 ⟨rfl, d3, M1, S1_⟩
                have S4 : Aside (SW enc w0 blk off d3 w3) := S1_
                have MR : Hid (Merged (ltOf cf) c b d1 d3) := M1
                clear M1 S1_ S2 HQ
                have MF : Hid (Merged (ltOf cf) a b d d3) := merged_from M2.out.perm (merged_both PO.out (by omega) (by omega) (by have h_ := hd1.out; omega) HH.out ML.out MR.out)
                go_wp2
                all_goals go_end0
                all_goals exact ⟨rfl, d3, MF.out, S4.out⟩
              · have p1z : (s : Int) < (m : Int) := by omega
                have p2z : (m : Int) < (e : Int) := by omega
                have p3z : ¬ (a : Int) < (s : Int) := by omega
                have p4z : ¬ (e : Int) < (b : Int) := by omega
                have p5z : (s : Int) < (c : Int) := by omega
                have p6z : (c : Int) < (e : Int) := by omega
                have hcall := fun W (SW_ : SW enc w0 blk off d W) => rotate HL.out g cb cap s m e a b d W R hs SW_ (by omega) p1 p2 (by omega) hb hsz
                have HR : Aside _ := hcall
                clear hcall
                go_wp2_with fail
                refine (HR.out _ S1.out).mono ?_
                rintro e_ w1 ⟨rfl, d1, M1, S1_⟩
                have S2 : Aside (SW enc w0 blk off d1 w1) := S1_
                have M2 : Hid (Mv (rotf s m e) a b d d1) := M1
                clear M1 S1_ S1 HR
                have hd1 : Hid (d1.size = d.size) := M2.out.size
                have HH : Hid (Halves (ltOf cf) a s c e b d1) := by have h_ := halves PO.out ham hmb PA.out PB.out PX.out CUT.out (by rw [← EC.out, ← EE.out]; exact M2.out); rw [← EC.out, ← EE.out] at h_; exact h_
                have ML : Hid (Merged (ltOf cf) a c d1 d1) := merged_left (by omega) (by omega) HH.out.a1 HH.out.a2 (by omega)
                have hd2 : Hid (d1.size = d.size) := ML.out.perm.1.trans hd1.out
                have RT : Hid (Asc (ltOf cf) c e d1 ∧ Asc (ltOf cf) e b d1 ∧ Cross c e b d1) := right_as HH.out ML.out.perm (by omega)
                have MR : Hid (Merged (ltOf cf) c b d1 d1) := merged_left (by omega) (by omega) RT.out.1 RT.out.2.1 (by omega)
                have MF : Hid (Merged (ltOf cf) a b d d1) := merged_from M2.out.perm (merged_both PO.out (by omega) (by omega) (by have h_ := hd1.out; omega) HH.out ML.out MR.out)
                go_wp2
                all_goals go_end0
                all_goals exact ⟨rfl, d1, MF.out, S2.out⟩
          · by_cases p3 : a < s
            · by_cases p4 : e < b
              · have p1z : (s : Int) < (m : Int) := by omega
                have p2z : ¬ (m : Int) < (e : Int) := by omega
                have p3z : (a : Int) < (s : Int) := by omega
                have p4z : (e : Int) < (b : Int) := by omega
                have p5z : ¬ (s : Int) < (c : Int) := by omega
                have p6z : (c : Int) < (e : Int) := by omega
                have M2 : Hid (Mv (rotf s m e) a b d d) := (Mv.refl a b d).as (fun x => by rw [show m = e by omega]; exact (rot_none (by omega) x).symm)
                have HH : Hid (Halves (ltOf cf) a s c e b d) := by have h_ := halves PO.out ham hmb PA.out PB.out PX.out CUT.out (by rw [← EC.out, ← EE.out]; exact M2.out); rw [← EC.out, ← EE.out] at h_; exact h_
                have ML : Hid (Merged (ltOf cf) a c d d) := merged_left (by omega) (by omega) HH.out.a1 HH.out.a2 (by omega)
                have RT : Hid (Asc (ltOf cf) c e d ∧ Asc (ltOf cf) e b d ∧ Cross c e b d) := right_as HH.out ML.out.perm (by omega)
                have hI := HI.out
                have hcall := fun W (SW_ : SW enc w0 blk off d W) => hI c e b d W (by omega) rfl SW_ (by omega) p4 hb RT.out.1 RT.out.2.1 RT.out.2.2
                clear hI
                have HQ : Aside _ := hcall
                clear hcall
                go_wp2_with fail
                refine (HQ.out _ S1.out).mono ?_
                rintro e_ w3 ⟨rfl, d3, M1, S1_⟩
                have S4 : Aside (SW enc w0 blk off d3 w3) := S1_
                have MR : Hid (Merged (ltOf cf) c b d d3) := M1
                clear M1 S1_ S1 HQ
                have MF : Hid (Merged (ltOf cf) a b d d3) := merged_from M2.out.perm (merged_both PO.out (by omega) (by omega) (by exact hb) HH.out ML.out MR.out)
                go_wp2
                all_goals go_end0
                all_goals exact ⟨rfl, d3, MF.out, S4.out⟩
              · have p1z : (s : Int) < (m : Int) := by omega
                have p2z : ¬ (m : Int) < (e : Int) := by omega
                have p3z : (a : Int) < (s : Int) := by omega
                have p4z : ¬ (e : Int) < (b : Int) := by omega
                have p5z : ¬ (s : Int) < (c : Int) := by omega
                have p6z : (c : Int) < (e : Int) := by omega
                have M2 : Hid (Mv (rotf s m e) a b d d) := (Mv.refl a b d).as (fun x => by rw [show m = e by omega]; exact (rot_none (by omega) x).symm)
                have HH : Hid (Halves (ltOf cf) a s c e b d) := by have h_ := halves PO.out ham hmb PA.out PB.out PX.out CUT.out (by rw [← EC.out, ← EE.out]; exact M2.out); rw [← EC.out, ← EE.out] at h_; exact h_
                have ML : Hid (Merged (ltOf cf) a c d d) := merged_left (by omega) (by omega) HH.out.a1 HH.out.a2 (by omega)
                have RT : Hid (Asc (ltOf cf) c e d ∧ Asc (ltOf cf) e b d ∧ Cross c e b d) := right_as HH.out ML.out.perm (by omega)
                have MR : Hid (Merged (ltOf cf) c b d d) := merged_left (by omega) (by omega) RT.out.1 RT.out.2.1 (by omega)
                have MF : Hid (Merged (ltOf cf) a b d d) := merged_from M2.out.perm (merged_both PO.out (by omega) (by omega) (by exact hb) HH.out ML.out MR.out)
                go_wp2
                all_goals go_end0
                all_goals exact ⟨rfl, d, MF.out, S1.out⟩
            · by_cases p4 : e < b
              · have p1z : (s : Int) < (m : Int) := by omega
                have p2z : ¬ (m : Int) < (e : Int) := by omega
                have p3z : ¬ (a : Int) < (s : Int) := by omega
                have p4z : (e : Int) < (b : Int) := by omega
                have p5z : ¬ (s : Int) < (c : Int) := by omega
                have p6z : (c : Int) < (e : Int) := by omega
                have M2 : Hid (Mv (rotf s m e) a b d d) := (Mv.refl a b d).as (fun x => by rw [show m = e by omega]; exact (rot_none (by omega) x).symm)
                have HH : Hid (Halves (ltOf cf) a s c e b d) := by have h_ := halves PO.out ham hmb PA.out PB.out PX.out CUT.out (by rw [← EC.out, ← EE.out]; exact M2.out); rw [← EC.out, ← EE.out] at h_; exact h_
                have ML : Hid (Merged (ltOf cf) a c d d) := merged_left (by omega) (by omega) HH.out.a1 HH.out.a2 (by omega)
                have RT : Hid (Asc (ltOf cf) c e d ∧ Asc (ltOf cf) e b d ∧ Cross c e b d) := right_as HH.out ML.out.perm (by omega)
                have hI := HI.out
                have hcall := fun W (SW_ : SW enc w0 blk off d W) => hI c e b d W (by omega) rfl SW_ (by omega) p4 hb RT.out.1 RT.out.2.1 RT.out.2.2
                clear hI
                have HQ : Aside _ := hcall
                clear hcall
                go_wp2_with fail
                refine (HQ.out _ S1.out).mono ?_
                rintro e_ w3 ⟨rfl, d3, M1, S1_⟩
                have S4 : Aside (SW enc w0 blk off d3 w3) := S1_
                have MR : Hid (Merged (ltOf cf) c b d d3) := M1
                clear M1 S1_ S1 HQ
                have MF : Hid (Merged (ltOf cf) a b d d3) := merged_from M2.out.perm (merged_both PO.out (by omega) (by omega) (by exact hb) HH.out ML.out MR.out)
                go_wp2
                all_goals go_end0
                all_goals exact ⟨rfl, d3, MF.out, S4.out⟩
              · have p1z : (s : Int) < (m : Int) := by omega
                have p2z : ¬ (m : Int) < (e : Int) := by omega
                have p3z : ¬ (a : Int) < (s : Int) := by omega
                have p4z : ¬ (e : Int) < (b : Int) := by omega
                have p5z : ¬ (s : Int) < (c : Int) := by omega
                have p6z : (c : Int) < (e : Int) := by omega
                have M2 : Hid (Mv (rotf s m e) a b d d) := (Mv.refl a b d).as (fun x => by rw [show m = e by omega]; exact (rot_none (by omega) x).symm)
                have HH : Hid (Halves (ltOf cf) a s c e b d) := by have h_ := halves PO.out ham hmb PA.out PB.out PX.out CUT.out (by rw [← EC.out, ← EE.out]; exact M2.out); rw [← EC.out, ← EE.out] at h_; exact h_
                have ML : Hid (Merged (ltOf cf) a c d d) := merged_left (by omega) (by omega) HH.out.a1 HH.out.a2 (by omega)
                have RT : Hid (Asc (ltOf cf) c e d ∧ Asc (ltOf cf) e b d ∧ Cross c e b d) := right_as HH.out ML.out.perm (by omega)
                have MR : Hid (Merged (ltOf cf) c b d d) := merged_left (by omega) (by omega) RT.out.1 RT.out.2.1 (by omega)
                have MF : Hid (Merged (ltOf cf) a b d d) := merged_from M2.out.perm (merged_both PO.out (by omega) (by omega) (by exact hb) HH.out ML.out MR.out)
                go_wp2
                all_goals go_end0
                all_goals exact ⟨rfl, d, MF.out, S1.out⟩
        · by_cases p2 : m < e
          · by_cases p3 : a < s
            · by_cases p4 : e < b
              · have p1z : ¬ (s : Int) < (m : Int) := by omega
                have p2z : (m : Int) < (e : Int) := by omega
                have p3z : (a : Int) < (s : Int) := by omega
                have p4z : (e : Int) < (b : Int) := by omega
                have p5z : (s : Int) < (c : Int) := by omega
                have p6z : ¬ (c : Int) < (e : Int) := by omega
                have M2 : Hid (Mv (rotf s m e) a b d d) := (Mv.refl a b d).as (fun x => by rw [show s = m by omega]; exact (rot_none' (by omega) x).symm)
                have HH : Hid (Halves (ltOf cf) a s c e b d) := by have h_ := halves PO.out ham hmb PA.out PB.out PX.out CUT.out (by rw [← EC.out, ← EE.out]; exact M2.out); rw [← EC.out, ← EE.out] at h_; exact h_
                have hI := HI.out
                have hcall := fun W (SW_ : SW enc w0 blk off d W) => hI a s c d W (by omega) rfl SW_ p3 (by omega) (by omega) HH.out.a1 HH.out.a2 HH.out.c1
                clear hI
                have HQ : Aside _ := hcall
                clear hcall
                go_wp2_with fail
                refine (HQ.out _ S1.out).mono ?_
                rintro e_ w2 ⟨rfl, d2, M1, S1_⟩
                have S3 : Aside (SW enc w0 blk off d2 w2) := S1_
                have ML : Hid (Merged (ltOf cf) a c d d2) := M1
                clear M1 S1_ S1 HQ
                have hd2 : Hid (d2.size = d.size) := ML.out.perm.1.trans rfl
                have RT : Hid (Asc (ltOf cf) c e d2 ∧ Asc (ltOf cf) e b d2 ∧ Cross c e b d2) := right_as HH.out ML.out.perm (by omega)
                have MR : Hid (Merged (ltOf cf) c b d2 d2) := merged_left (by omega) (by omega) RT.out.1 RT.out.2.1 (by omega)
                have MF : Hid (Merged (ltOf cf) a b d d2) := merged_from M2.out.perm (merged_both PO.out (by omega) (by omega) (by exact hb) HH.out ML.out MR.out)
                go_wp2
                all_goals go_end0
                all_goals exact ⟨rfl, d2, MF.out, S3.out⟩
              · have p1z : ¬ (s : Int) < (m : Int) := by omega
                have p2z : (m : Int) < (e : Int) := by omega
                have p3z : (a : Int) < (s : Int) := by omega
                have p4z : ¬ (e : Int) < (b : Int) := by omega
                have p5z : (s : Int) < (c : Int) := by omega
                have p6z : ¬ (c : Int) < (e : Int) := by omega
                have M2 : Hid (Mv (rotf s m e) a b d d) := (Mv.refl a b d).as (fun x => by rw [show s = m by omega]; exact (rot_none' (by omega) x).symm)
                have HH : Hid (Halves (ltOf cf) a s c e b d) := by have h_ := halves PO.out ham hmb PA.out PB.out PX.out CUT.out (by rw [← EC.out, ← EE.out]; exact M2.out); rw [← EC.out, ← EE.out] at h_; exact h_
                have hI := HI.out
                have hcall := fun W (SW_ : SW enc w0 blk off d W) => hI a s c d W (by omega) rfl SW_ p3 (by omega) (by omega) HH.out.a1 HH.out.a2 HH.out.c1
                clear hI
                have HQ : Aside _ := hcall
                clear hcall
                go_wp2_with fail
                refine (HQ.out _ S1.out).mono ?_
                rintro e_ w2 ⟨rfl, d2, M1, S1_⟩
                have S3 : Aside (SW enc w0 blk off d2 w2) := S1_
                have ML : Hid (Merged (ltOf cf) a c d d2) := M1
                clear M1 S1_ S1 HQ
                have hd2 : Hid (d2.size = d.size) := ML.out.perm.1.trans rfl
                have RT : Hid (Asc (ltOf cf) c e d2 ∧ Asc (ltOf cf) e b d2 ∧ Cross c e b d2) := right_as HH.out ML.out.perm (by omega)
                have MR : Hid (Merged (ltOf cf) c b d2 d2) := merged_left (by omega) (by omega) RT.out.1 RT.out.2.1 (by omega)
                have MF : Hid (Merged (ltOf cf) a b d d2) := merged_from M2.out.perm (merged_both PO.out (by omega) (by omega) (by exact hb) HH.out ML.out MR.out)
                go_wp2
                all_goals go_end0
                all_goals exact ⟨rfl, d2, MF.out, S3.out⟩
            · by_cases p4 : e < b
              · have p1z : ¬ (s : Int) < (m : Int) := by omega
                have p2z : (m : Int) < (e : Int) := by omega
                have p3z : ¬ (a : Int) < (s : Int) := by omega
                have p4z : (e : Int) < (b : Int) := by omega
                have p5z : (s : Int) < (c : Int) := by omega
                have p6z : ¬ (c : Int) < (e : Int) := by omega
                have M2 : Hid (Mv (rotf s m e) a b d d) := (Mv.refl a b d).as (fun x => by rw [show s = m by omega]; exact (rot_none' (by omega) x).symm)
                have HH : Hid (Halves (ltOf cf) a s c e b d) := by have h_ := halves PO.out ham hmb PA.out PB.out PX.out CUT.out (by rw [← EC.out, ← EE.out]; exact M2.out); rw [← EC.out, ← EE.out] at h_; exact h_
                have ML : Hid (Merged (ltOf cf) a c d d) := merged_left (by omega) (by omega) HH.out.a1 HH.out.a2 (by omega)
                have RT : Hid (Asc (ltOf cf) c e d ∧ Asc (ltOf cf) e b d ∧ Cross c e b d) := right_as HH.out ML.out.perm (by omega)
                have MR : Hid (Merged (ltOf cf) c b d d) := merged_left (by omega) (by omega) RT.out.1 RT.out.2.1 (by omega)
                have MF : Hid (Merged (ltOf cf) a b d d) := merged_from M2.out.perm (merged_both PO.out (by omega) (by omega) (by exact hb) HH.out ML.out MR.out)
                go_wp2
                all_goals go_end0
                all_goals exact ⟨rfl, d, MF.out, S1.out⟩
              · have p1z : ¬ (s : Int) < (m : Int) := by omega
                have p2z : (m : Int) < (e : Int) := by omega
                have p3z : ¬ (a : Int) < (s : Int) := by omega
                have p4z : ¬ (e : Int) < (b : Int) := by omega
                have p5z : (s : Int) < (c : Int) := by omega
                have p6z : ¬ (c : Int) < (e : Int) := by omega
                have M2 : Hid (Mv (rotf s m e) a b d d) := (Mv.refl a b d).as (fun x => by rw [show s = m by omega]; exact (rot_none' (by omega) x).symm)
                have HH : Hid (Halves (ltOf cf) a s c e b d) := by have h_ := halves PO.out ham hmb PA.out PB.out PX.out CUT.out (by rw [← EC.out, ← EE.out]; exact M2.out); rw [← EC.out, ← EE.out] at h_; exact h_
                have ML : Hid (Merged (ltOf cf) a c d d) := merged_left (by omega) (by omega) HH.out.a1 HH.out.a2 (by omega)
                have RT : Hid (Asc (ltOf cf) c e d ∧ Asc (ltOf cf) e b d ∧ Cross c e b d) := right_as HH.out ML.out.perm (by omega)
                have MR : Hid (Merged (ltOf cf) c b d d) := merged_left (by omega) (by omega) RT.out.1 RT.out.2.1 (by omega)
                have MF : Hid (Merged (ltOf cf) a b d d) := merged_from M2.out.perm (merged_both PO.out (by omega) (by omega) (by exact hb) HH.out ML.out MR.out)
                go_wp2
                all_goals go_end0
                all_goals exact ⟨rfl, d, MF.out, S1.out⟩
          · by_cases p3 : a < s
            · by_cases p4 : e < b
              · have p1z : ¬ (s : Int) < (m : Int) := by omega
                have p2z : ¬ (m : Int) < (e : Int) := by omega
                have p3z : (a : Int) < (s : Int) := by omega
                have p4z : (e : Int) < (b : Int) := by omega
                have p5z : ¬ (s : Int) < (c : Int) := by omega
                have p6z : ¬ (c : Int) < (e : Int) := by omega
                have M2 : Hid (Mv (rotf s m e) a b d d) := (Mv.refl a b d).as (fun x => by rw [show m = e by omega]; exact (rot_none (by omega) x).symm)
                have HH : Hid (Halves (ltOf cf) a s c e b d) := by have h_ := halves PO.out ham hmb PA.out PB.out PX.out CUT.out (by rw [← EC.out, ← EE.out]; exact M2.out); rw [← EC.out, ← EE.out] at h_; exact h_
                have ML : Hid (Merged (ltOf cf) a c d d) := merged_left (by omega) (by omega) HH.out.a1 HH.out.a2 (by omega)
                have RT : Hid (Asc (ltOf cf) c e d ∧ Asc (ltOf cf) e b d ∧ Cross c e b d) := right_as HH.out ML.out.perm (by omega)
                have MR : Hid (Merged (ltOf cf) c b d d) := merged_left (by omega) (by omega) RT.out.1 RT.out.2.1 (by omega)
                have MF : Hid (Merged (ltOf cf) a b d d) := merged_from M2.out.perm (merged_both PO.out (by omega) (by omega) (by exact hb) HH.out ML.out MR.out)
                go_wp2
                all_goals go_end0
                all_goals exact ⟨rfl, d, MF.out, S1.out⟩
              · have p1z : ¬ (s : Int) < (m : Int) := by omega
                have p2z : ¬ (m : Int) < (e : Int) := by omega
                have p3z : (a : Int) < (s : Int) := by omega
                have p4z : ¬ (e : Int) < (b : Int) := by omega
                have p5z : ¬ (s : Int) < (c : Int) := by omega
                have p6z : ¬ (c : Int) < (e : Int) := by omega
                have M2 : Hid (Mv (rotf s m e) a b d d) := (Mv.refl a b d).as (fun x => by rw [show m = e by omega]; exact (rot_none (by omega) x).symm)
                have HH : Hid (Halves (ltOf cf) a s c e b d) := by have h_ := halves PO.out ham hmb PA.out PB.out PX.out CUT.out (by rw [← EC.out, ← EE.out]; exact M2.out); rw [← EC.out, ← EE.out] at h_; exact h_
                have ML : Hid (Merged (ltOf cf) a c d d) := merged_left (by omega) (by omega) HH.out.a1 HH.out.a2 (by omega)
                have RT : Hid (Asc (ltOf cf) c e d ∧ Asc (ltOf cf) e b d ∧ Cross c e b d) := right_as HH.out ML.out.perm (by omega)
                have MR : Hid (Merged (ltOf cf) c b d d) := merged_left (by omega) (by omega) RT.out.1 RT.out.2.1 (by omega)
                have MF : Hid (Merged (ltOf cf) a b d d) := merged_from M2.out.perm (merged_both PO.out (by omega) (by omega) (by exact hb) HH.out ML.out MR.out)
                go_wp2
                all_goals go_end0
                all_goals exact ⟨rfl, d, MF.out, S1.out⟩
            · by_cases p4 : e < b
              · have p1z : ¬ (s : Int) < (m : Int) := by omega
                have p2z : ¬ (m : Int) < (e : Int) := by omega
                have p3z : ¬ (a : Int) < (s : Int) := by omega
                have p4z : (e : Int) < (b : Int) := by omega
                have p5z : ¬ (s : Int) < (c : Int) := by omega
                have p6z : ¬ (c : Int) < (e : Int) := by omega
                have M2 : Hid (Mv (rotf s m e) a b d d) := (Mv.refl a b d).as (fun x => by rw [show m = e by omega]; exact (rot_none (by omega) x).symm)
                have HH : Hid (Halves (ltOf cf) a s c e b d) := by have h_ := halves PO.out ham hmb PA.out PB.out PX.out CUT.out (by rw [← EC.out, ← EE.out]; exact M2.out); rw [← EC.out, ← EE.out] at h_; exact h_
                have ML : Hid (Merged (ltOf cf) a c d d) := merged_left (by omega) (by omega) HH.out.a1 HH.out.a2 (by omega)
                have RT : Hid (Asc (ltOf cf) c e d ∧ Asc (ltOf cf) e b d ∧ Cross c e b d) := right_as HH.out ML.out.perm (by omega)
                have MR : Hid (Merged (ltOf cf) c b d d) := merged_left (by omega) (by omega) RT.out.1 RT.out.2.1 (by omega)
                have MF : Hid (Merged (ltOf cf) a b d d) := merged_from M2.out.perm (merged_both PO.out (by omega) (by omega) (by exact hb) HH.out ML.out MR.out)
                go_wp2
                all_goals go_end0
                all_goals exact ⟨rfl, d, MF.out, S1.out⟩
              · have p1z : ¬ (s : Int) < (m : Int) := by omega
                have p2z : ¬ (m : Int) < (e : Int) := by omega
                have p3z : ¬ (a : Int) < (s : Int) := by omega
                have p4z : ¬ (e : Int) < (b : Int) := by omega
                have p5z : ¬ (s : Int) < (c : Int) := by omega
                have p6z : ¬ (c : Int) < (e : Int) := by omega
                have M2 : Hid (Mv (rotf s m e) a b d d) := (Mv.refl a b d).as (fun x => by rw [show m = e by omega]; exact (rot_none (by omega) x).symm)
                have HH : Hid (Halves (ltOf cf) a s c e b d) := by have h_ := halves PO.out ham hmb PA.out PB.out PX.out CUT.out (by rw [← EC.out, ← EE.out]; exact M2.out); rw [← EC.out, ← EE.out] at h_; exact h_
                have ML : Hid (Merged (ltOf cf) a c d d) := merged_left (by omega) (by omega) HH.out.a1 HH.out.a2 (by omega)
                have RT : Hid (Asc (ltOf cf) c e d ∧ Asc (ltOf cf) e b d ∧ Cross c e b d) := right_as HH.out ML.out.perm (by omega)
                have MR : Hid (Merged (ltOf cf) c b d d) := merged_left (by omega) (by omega) RT.out.1 RT.out.2.1 (by omega)
                have MF : Hid (Merged (ltOf cf) a b d d) := merged_from M2.out.perm (merged_both PO.out (by omega) (by omega) (by exact hb) HH.out ML.out MR.out)
                go_wp2
                all_goals go_end0
                all_goals exact ⟨rfl, d, MF.out, S1.out⟩
  · have cmz : ¬ (c : Int) < (m : Int) := by omega
    have cmd : decide ((m : Int) > (c : Int)) = false := decide_eq_false (by omega)
    have g1 : a ≤ a := by omega
    have g2 : a ≤ m := by omega
    go_wp2
    go_loopg [20, 21] (m - a) (fun kx s20 s21 wr => ∃ (s r : Nat), s20 = .int .i64 s ∧ s21 = .int .i64 r ∧ a ≤ s ∧ s ≤ r ∧ r ≤ m ∧ r - s ≤ kx ∧ Aside (SW enc w0 blk off d wr) ∧ Hid ((∀ t, a ≤ t → t < s → ltOf cf d[c + m - 1 - t]! d[t]! = false) ∧ ∀ t, r ≤ t → t < m → ltOf cf d[c + m - 1 - t]! d[t]! = true))
    case atStart => exact ⟨a, m, rfl, rfl, Nat.le_refl _, g2, Nat.le_refl _, Nat.le_refl _, S0, ⟨fun h h1 h2 => by omega, fun h h1 h2 => by omega⟩⟩
    case round =>
      clear S0
      obtain ⟨s, r, rfl, rfl, hms, hsr, hrr, hkx, S1, I⟩ := hrel
      by_cases hlt : s < r
      · have hltz : (s : Int) < (r : Int) := by omega
        obtain ⟨h, hh⟩ : ∃ h : Nat, h = (s + r) / 2 := ⟨_, rfl⟩
        have hz : ((s : Int) + (r : Int)) / 2 = (h : Int) := by omega
        have hih : s ≤ h := by omega
        have hhj : h < r := by omega
        clear hh
        obtain ⟨q, hq⟩ : ∃ q : Nat, q = c + m - 1 - h := ⟨_, rfl⟩
        have hzq : (c : Int) + (m : Int) - 1 - (h : Int) = (q : Int) := by omega
        have hqm : m ≤ q := by omega
        have hqb : q < b := by omega
        have HQE : Hid (q = c + m - 1 - h) := hq
        clear hq
        obtain ⟨iN4, hiN4⟩ : ∃ z_, z_ = q := ⟨_, rfl⟩
        obtain ⟨jN4, hjN4⟩ : ∃ z_, z_ = h := ⟨_, rfl⟩
        have ea4 : ((q : Int)).toNat = iN4 := by omega
        have pa4 : (0 : Int) ≤ (q : Int) := by omega
        have ba4 : (q : Int) < (d.size : Int) := by omega
        have ra4 : IntKind.i64.wrap ((q : Int)) = (q : Int) := by rw [IntKind.wrap_i64]; omega
        have ec4 : ((h : Int)).toNat = jN4 := by omega
        have pc4 : (0 : Int) ≤ (h : Int) := by omega
        have bc4 : (h : Int) < (d.size : Int) := by omega
        have rc4 : IntKind.i64.wrap ((h : Int)) = (h : Int) := by rw [IntKind.wrap_i64]; omega
        obtain ⟨x4, hx4⟩ : ∃ x, x = d[q]! := ⟨_, rfl⟩
        obtain ⟨y4, hy4⟩ : ∃ x, x = d[h]! := ⟨_, rfl⟩
        have l4a : ∀ (n : Nat) (os : Array Obj), (grow (wr.drewN n) os).cell? ⟨blk, off + iN4, none⟩ = some (enc x4) := by rw [hiN4, hx4]; exact S1.out.cl R (by omega) (q) (by omega)
        have l4b : ∀ (n : Nat) (os : Array Obj), (grow (wr.drewN n) os).cell? ⟨blk, off + jN4, none⟩ = some (enc y4) := by rw [hjN4, hy4]; exact S1.out.cl R (by omega) (h) (by omega)
        have hc4 := S1.out.cmp HC.out (by omega) x4 y4
        by_cases hv4 : cf x4 y4 < 0
        · have hd4 : decide (cf x4 y4 < 0) = true := decide_eq_true hv4
          have HV : Hid (ltOf cf d[q]! d[h]! = true) := by show _ = _; rw [← hx4, ← hy4]; exact decide_eq_true hv4
          clear hx4 hy4 hiN4 hjN4
          go_wp2_with fail
          go_quiet_grown (first | (go_at_fn g; refine Calls.grown_of (hc4 _ _)))
          have SV : Aside (SW enc w0 blk off d (grow (wr.drewN nq) osq)) := S1.out.grown nq osq
          clear l4a l4b hc4 S1
          generalize grow (wr.drewN nq) osq = wv at SV ⊢
          clear nq osq
          clear ea4 ec4
          go_wp2
          go_roundg (h - s)
          case measure => omega
          case rel =>
            have I2 : Hid ((∀ t, a ≤ t → t < s → ltOf cf d[c + m - 1 - t]! d[t]! = false) ∧ ∀ t, h ≤ t → t < m → ltOf cf d[c + m - 1 - t]! d[t]! = true) := ⟨I.out.1, fun t t1 t2 => by have e_ := HQE.out; exact lt_down PO.out (lt_up PO.out HV.out (PA.out.le_not PO.out (by omega) t1 (by omega))) (PB.out.le_not PO.out (i := c + m - 1 - t) (j := q) (by omega) (by omega) hqb)⟩
            exact ⟨s, h, rfl, rfl, hms, by omega, by omega, Nat.le_refl _, SV, I2⟩
        · have hd4 : decide (cf x4 y4 < 0) = false := decide_eq_false hv4
          have HV : Hid (ltOf cf d[q]! d[h]! = false) := by show _ = _; rw [← hx4, ← hy4]; exact decide_eq_false hv4
          clear hx4 hy4 hiN4 hjN4
          go_wp2_with fail
          go_quiet_grown (first | (go_at_fn g; refine Calls.grown_of (hc4 _ _)))
          have SV : Aside (SW enc w0 blk off d (grow (wr.drewN nq) osq)) := S1.out.grown nq osq
          clear l4a l4b hc4 S1
          generalize grow (wr.drewN nq) osq = wv at SV ⊢
          clear nq osq
          clear ea4 ec4
          go_wp2
          go_roundg (r - (h + 1))
          case measure => omega
          case rel =>
            have I2 : Hid ((∀ t, a ≤ t → t < h + 1 → ltOf cf d[c + m - 1 - t]! d[t]! = false) ∧ ∀ t, r ≤ t → t < m → ltOf cf d[c + m - 1 - t]! d[t]! = true) := ⟨fun t t1 t2 => by have e_ := HQE.out; exact PO.out.ntrans _ _ _ (PO.out.ntrans _ _ _ (PB.out.le_not PO.out (i := q) (j := c + m - 1 - t) hqm (by omega) (by omega)) HV.out) (PA.out.le_not PO.out (by omega) (Nat.le_of_lt_succ t2) (by omega)), I.out.2⟩
            exact ⟨h + 1, r, by go_num, rfl, by omega, by omega, hrr, Nat.le_refl _, SV, I2⟩
      · have hltz : ¬ (s : Int) < (r : Int) := by omega
        obtain rfl : r = s := by omega
        obtain ⟨s, es⟩ : ∃ s, s = r := ⟨_, rfl⟩
        subst es
        obtain ⟨e, he⟩ : ∃ e : Nat, e = c + m - s := ⟨_, rfl⟩
        have hze : (c : Int) + (m : Int) - (s : Int) = (e : Int) := by omega
        have EE : Hid (e = c + m - s) := he
        have CUT : Hid (Cut (ltOf cf) a m b s d) := cut_of EC.out (by omega) (by omega) (by omega) (by omega) (fun h1 h2 => I.out.1 (s - 1) (by omega) (by omega)) (fun h1 h2 => I.out.2 s (Nat.le_refl _) (by omega))
        have f1 : s ≤ m := by omega
        have f2 : s ≤ c := by omega
        have f3 : e ≤ b := by omega
        have f4 : m ≤ e := by omega
        have f5 : e + s = c + m := by omega
        clear he I hlt hltz hkx
        by_cases p1 : s < m
        · by_cases p2 : m < e
          · by_cases p3 : a < s
            · by_cases p4 : e < b
              · have p1z : (s : Int) < (m : Int) := by omega
                have p2z : (m : Int) < (e : Int) := by omega
                have p3z : (a : Int) < (s : Int) := by omega
                have p4z : (e : Int) < (b : Int) := by omega
                have p5z : (s : Int) < (c : Int) := by omega
                have p6z : (c : Int) < (e : Int) := by omega
                have hcall := fun W (SW_ : SW enc w0 blk off d W) => rotate HL.out g cb cap s m e a b d W R hs SW_ (by omega) p1 p2 (by omega) hb hsz
                have HR : Aside _ := hcall
                clear hcall
                go_wp2_with fail
                refine (HR.out _ S1.out).mono ?_
                rintro e_ w1 ⟨rfl, d1, M1, S1_⟩
                have S2 : Aside (SW enc w0 blk off d1 w1) := S1_
                have M2 : Hid (Mv (rotf s m e) a b d d1) := M1
                clear M1 S1_ S1 HR
                have hd1 : Hid (d1.size = d.size) := M2.out.size
                have HH : Hid (Halves (ltOf cf) a s c e b d1) := by have h_ := halves PO.out ham hmb PA.out PB.out PX.out CUT.out (by rw [← EC.out, ← EE.out]; exact M2.out); rw [← EC.out, ← EE.out] at h_; exact h_
                have hI := HI.out
                have hcall := fun W (SW_ : SW enc w0 blk off d1 W) => hI a s c d1 W (by omega) hd1.out SW_ p3 (by omega) (by omega) HH.out.a1 HH.out.a2 HH.out.c1
                clear hI
                have HQ : Aside _ := hcall
                clear hcall
                go_wp2_with fail
                refine (HQ.out _ S2.out).mono ?_
                rintro e_ w2 ⟨rfl, d2, M1, S1_⟩
                have S3 : Aside (SW enc w0 blk off d2 w2) := S1_
                have ML : Hid (Merged (ltOf cf) a c d1 d2) := M1
                clear M1 S1_ S2 HQ
                have hd2 : Hid (d2.size = d.size) := ML.out.perm.1.trans hd1.out
                have RT : Hid (Asc (ltOf cf) c e d2 ∧ Asc (ltOf cf) e b d2 ∧ Cross c e b d2) := right_as HH.out ML.out.perm (by omega)
                have hI := HI.out
                have hcall := fun W (SW_ : SW enc w0 blk off d2 W) => hI c e b d2 W (by omega) hd2.out SW_ (by omega) p4 hb RT.out.1 RT.out.2.1 RT.out.2.2
                clear hI
                have HQ : Aside _ := hcall
                clear hcall
                go_wp2_with fail
                refine (HQ.out _ S3.out).mono ?_
                rintro e_ w3 ⟨rfl, d3, M1, S1_⟩
                have S4 : Aside (SW enc w0 blk off d3 w3) := S1_
                have MR : Hid (Merged (ltOf cf) c b d2 d3) := M1
                clear M1 S1_ S3 HQ
                have MF : Hid (Merged (ltOf cf) a b d d3) := merged_from M2.out.perm (merged_both PO.out (by omega) (by omega) (by have h_ := hd1.out; omega) HH.out ML.out MR.out)
                go_wp2
                all_goals go_end0
                all_goals exact ⟨rfl, d3, MF.out, S4.out⟩
              · have p1z : (s : Int) < (m : Int) := by omega
                have p2z : (m : Int) < (e : Int) := by omega
                have p3z : (a : Int) < (s : Int) := by omega
                have p4z : ¬ (e : Int) < (b : Int) := by omega
                have p5z : (s : Int) < (c : Int) := by omega
                have p6z : (c : Int) < (e : Int) := by omega
                have hcall := fun W (SW_ : SW enc w0 blk off d W) => rotate HL.out g cb cap s m e a b d W R hs SW_ (by omega) p1 p2 (by omega) hb hsz
                have HR : Aside _ := hcall
                clear hcall
                go_wp2_with fail
                refine (HR.out _ S1.out).mono ?_
                rintro e_ w1 ⟨rfl, d1, M1, S1_⟩
                have S2 : Aside (SW enc w0 blk off d1 w1) := S1_
                have M2 : Hid (Mv (rotf s m e) a b d d1) := M1
                clear M1 S1_ S1 HR
                have hd1 : Hid (d1.size = d.size) := M2.out.size
                have HH : Hid (Halves (ltOf cf) a s c e b d1) := by have h_ := halves PO.out ham hmb PA.out PB.out PX.out CUT.out (by rw [← EC.out, ← EE.out]; exact M2.out); rw [← EC.out, ← EE.out] at h_; exact h_
                have hI := HI.out
                have hcall := fun W (SW_ : SW enc w0 blk off d1 W) => hI a s c d1 W (by omega) hd1.out SW_ p3 (by omega) (by omega) HH.out.a1 HH.out.a2 HH.out.c1
                clear hI
                have HQ : Aside _ := hcall
                clear hcall
                go_wp2_with fail
                refine (HQ.out _ S2.out).mono ?_
                rintro e_ w2 ⟨rfl, d2, M1, S1_⟩
                have S3 : Aside (SW enc w0 blk off d2 w2) := S1_
                have ML : Hid (Merged (ltOf cf) a c d1 d2) := M1
                clear M1 S1_ S2 HQ
                have hd2 : Hid (d2.size = d.size) := ML.out.perm.1.trans hd1.out
                have RT : Hid (Asc (ltOf cf) c e d2 ∧ Asc (ltOf cf) e b d2 ∧ Cross c e b d2) := right_as HH.out ML.out.perm (by omega)
                have MR : Hid (Merged (ltOf cf) c b d2 d2) := merged_left (by omega) (by omega) RT.out.1 RT.out.2.1 (by omega)
                have MF : Hid (Merged (ltOf cf) a b d d2) := merged_from M2.out.perm (merged_both PO.out (by omega) (by omega) (by have h_ := hd1.out; omega) HH.out ML.out MR.out)
                go_wp2
                all_goals go_end0
                all_goals exact ⟨rfl, d2, MF.out, S3.out⟩
            · by_cases p4 : e < b
              · have p1z : (s : Int) < (m : Int) := by omega
                have p2z : (m : Int) < (e : Int) := by omega
                have p3z : ¬ (a : Int) < (s : Int) := by omega
                have p4z : (e : Int) < (b : Int) := by omega
                have p5z : (s : Int) < (c : Int) := by omega
                have p6z : (c : Int) < (e : Int) := by omega
                have hcall := fun W (SW_ : SW enc w0 blk off d W) => rotate HL.out g cb cap s m e a b d W R hs SW_ (by omega) p1 p2 (by omega) hb hsz
                have HR : Aside _ := hcall
                clear hcall
                go_wp2_with fail
                refine (HR.out _ S1.out).mono ?_
                rintro e_ w1 ⟨rfl, d1, M1, S1_⟩
                have S2 : Aside (SW enc w0 blk off d1 w1) := S1_
                have M2 : Hid (Mv (rotf s m e) a b d d1) := M1
                clear M1 S1_ S1 HR
                have hd1 : Hid (d1.size = d.size) := M2.out.size
                have HH : Hid (Halves (ltOf cf) a s c e b d1) := by have h_ := halves PO.out ham hmb PA.out PB.out PX.out CUT.out (by rw [← EC.out, ← EE.out]; exact M2.out); rw [← EC.out, ← EE.out] at h_; exact h_
                have ML : Hid (Merged (ltOf cf) a c d1 d1) := merged_left (by omega) (by omega) HH.out.a1 HH.out.a2 (by omega)
                have hd2 : Hid (d1.size = d.size) := ML.out.perm.1.trans hd1.out
                have RT : Hid (Asc (ltOf cf) c e d1 ∧ Asc (ltOf cf) e b d1 ∧ Cross c e b d1) := right_as HH.out ML.out.perm (by omega)
                have hI := HI.out
                have hcall := fun W (SW_ : SW enc w0 blk off d1 W) => hI c e b d1 W (by omega) hd2.out SW_ (by omega) p4 hb RT.out.1 RT.out.2.1 RT.out.2.2
                clear hI
                have HQ : Aside _ := hcall
                clear hcall
                go_wp2_with fail
                refine (HQ.out _ S2.out).mono ?_
                rintro e_ w3 ⟨rfl, d3, M1, S1_⟩
                have S4 : Aside (SW enc w0 blk off d3 w3) := S1_
                have MR : Hid (Merged (ltOf cf) c b d1 d3) := M1
                clear M1 S1_ S2 HQ
                have MF : Hid (Merged (ltOf cf) a b d d3) := merged_from M2.out.perm (merged_both PO.out (by omega) (by omega) (by have h_ := hd1.out; omega) HH.out ML.out MR.out)
                go_wp2
                all_goals go_end0
                all_goals exact ⟨rfl, d3, MF.out, S4.out⟩
              · have p1z : (s : Int) < (m : Int) := by omega
                have p2z : (m : Int) < (e : Int) := by omega
                have p3z : ¬ (a : Int) < (s : Int) := by omega
                have p4z : ¬ (e : Int) < (b : Int) := by omega
                have p5z : (s : Int) < (c : Int) := by omega
                have p6z : (c : Int) < (e : Int) := by omega
                have hcall := fun W (SW_ : SW enc w0 blk off d W) => rotate HL.out g cb cap s m e a b d W R hs SW_ (by omega) p1 p2 (by omega) hb hsz
                have HR : Aside _ := hcall
                clear hcall
                go_wp2_with fail
                refine (HR.out _ S1.out).mono ?_
                rintro e_ w1 ⟨rfl, d1, M1, S1_⟩
                have S2 : Aside (SW enc w0 blk off d1 w1) := S1_
                have M2 : Hid (Mv (rotf s m e) a b d d1) := M1
                clear M1 S1_ S1 HR
                have hd1 : Hid (d1.size = d.size) := M2.out.size
                have HH : Hid (Halves (ltOf cf) a s c e b d1) := by have h_ := halves PO.out ham hmb PA.out PB.out PX.out CUT.out (by rw [← EC.out, ← EE.out]; exact M2.out); rw [← EC.out, ← EE.out] at h_; exact h_
                have ML : Hid (Merged (ltOf cf) a c d1 d1) := merged_left (by omega) (by omega) HH.out.a1 HH.out.a2 (by omega)
                have hd2 : Hid (d1.size = d.size) := ML.out.perm.1.trans hd1.out
                have RT : Hid (Asc (ltOf cf) c e d1 ∧ Asc (ltOf cf) e b d1 ∧ Cross c e b d1) := right_as HH.out ML.out.perm (by omega)
                have MR : Hid (Merged (ltOf cf) c b d1 d1) := merged_left (by omega) (by omega) RT.out.1 RT.out.2.1 (by omega)
                have MF : Hid (Merged (ltOf cf) a b d d1) := merged_from M2.out.perm (merged_both PO.out (by omega) (by omega) (by have h_ := hd1.out; omega) HH.out ML.out MR.out)
                go_wp2
                all_goals go_end0
                all_goals exact ⟨rfl, d1, MF.out, S2.out⟩
          · by_cases p3 : a < s
            · by_cases p4 : e < b
              · have p1z : (s : Int) < (m : Int) := by omega
                have p2z : ¬ (m : Int) < (e : Int) := by omega
                have p3z : (a : Int) < (s : Int) := by omega
                have p4z : (e : Int) < (b : Int) := by omega
                have p5z : ¬ (s : Int) < (c : Int) := by omega
                have p6z : (c : Int) < (e : Int) := by omega
                have M2 : Hid (Mv (rotf s m e) a b d d) := (Mv.refl a b d).as (fun x => by rw [show m = e by omega]; exact (rot_none (by omega) x).symm)
                have HH : Hid (Halves (ltOf cf) a s c e b d) := by have h_ := halves PO.out ham hmb PA.out PB.out PX.out CUT.out (by rw [← EC.out, ← EE.out]; exact M2.out); rw [← EC.out, ← EE.out] at h_; exact h_
                have ML : Hid (Merged (ltOf cf) a c d d) := merged_left (by omega) (by omega) HH.out.a1 HH.out.a2 (by omega)
                have RT : Hid (Asc (ltOf cf) c e d ∧ Asc (ltOf cf) e b d ∧ Cross c e b d) := right_as HH.out ML.out.perm (by omega)
                have hI := HI.out
                have hcall := fun W (SW_ : SW enc w0 blk off d W) => hI c e b d W (by omega) rfl SW_ (by omega) p4 hb RT.out.1 RT.out.2.1 RT.out.2.2
                clear hI
                have HQ : Aside _ := hcall
                clear hcall
                go_wp2_with fail
                refine (HQ.out _ S1.out).mono ?_
                rintro e_ w3 ⟨rfl, d3, M1, S1_⟩
                have S4 : Aside (SW enc w0 blk off d3 w3) := S1_
                have MR : Hid (Merged (ltOf cf) c b d d3) := M1
                clear M1 S1_ S1 HQ
                have MF : Hid (Merged (ltOf cf) a b d d3) := merged_from M2.out.perm (merged_both PO.out (by omega) (by omega) (by exact hb) HH.out ML.out MR.out)
                go_wp2
                all_goals go_end0
                all_goals exact ⟨rfl, d3, MF.out, S4.out⟩
              · have p1z : (s : Int) < (m : Int) := by omega
                have p2z : ¬ (m : Int) < (e : Int) := by omega
                have p3z : (a : Int) < (s : Int) := by omega
                have p4z : ¬ (e : Int) < (b : Int) := by omega
                have p5z : ¬ (s : Int) < (c : Int) := by omega
                have p6z : (c : Int) < (e : Int) := by omega
                have M2 : Hid (Mv (rotf s m e) a b d d) := (Mv.refl a b d).as (fun x => by rw [show m = e by omega]; exact (rot_none (by omega) x).symm)
                have HH : Hid (Halves (ltOf cf) a s c e b d) := by have h_ := halves PO.out ham hmb PA.out PB.out PX.out CUT.out (by rw [← EC.out, ← EE.out]; exact M2.out); rw [← EC.out, ← EE.out] at h_; exact h_
                have ML : Hid (Merged (ltOf cf) a c d d) := merged_left (by omega) (by omega) HH.out.a1 HH.out.a2 (by omega)
                have RT : Hid (Asc (ltOf cf) c e d ∧ Asc (ltOf cf) e b d ∧ Cross c e b d) := right_as HH.out ML.out.perm (by omega)
                have MR : Hid (Merged (ltOf cf) c b d d) := merged_left (by omega) (by omega) RT.out.1 RT.out.2.1 (by omega)
                have MF : Hid (Merged (ltOf cf) a b d d) := merged_from M2.out.perm (merged_both PO.out (by omega) (by omega) (by exact hb) HH.out ML.out MR.out)
                go_wp2
                all_goals go_end0
                all_goals exact ⟨rfl, d, MF.out, S1.out⟩
            · by_cases p4 : e < b
              · have p1z : (s : Int) < (m : Int) := by omega
                have p2z : ¬ (m : Int) < (e : Int) := by omega
                have p3z : ¬ (a : Int) < (s : Int) := by omega
                have p4z : (e : Int) < (b : Int) := by omega
                have p5z : ¬ (s : Int) < (c : Int) := by omega
                have p6z : (c : Int) < (e : Int) := by omega
                have M2 : Hid (Mv (rotf s m e) a b d d) := (Mv.refl a b d).as (fun x => by rw [show m = e by omega]; exact (rot_none (by omega) x).symm)
                have HH : Hid (Halves (ltOf cf) a s c e b d) := by have h_ := halves PO.out ham hmb PA.out PB.out PX.out CUT.out (by rw [← EC.out, ← EE.out]; exact M2.out); rw [← EC.out, ← EE.out] at h_; exact h_
                have ML : Hid (Merged (ltOf cf) a c d d) := merged_left (by omega) (by omega) HH.out.a1 HH.out.a2 (by omega)
                have RT : Hid (Asc (ltOf cf) c e d ∧ Asc (ltOf cf) e b d ∧ Cross c e b d) := right_as HH.out ML.out.perm (by omega)
                have hI := HI.out
                have hcall := fun W (SW_ : SW enc w0 blk off d W) => hI c e b d W (by omega) rfl SW_ (by omega) p4 hb RT.out.1 RT.out.2.1 RT.out.2.2
                clear hI
                have HQ : Aside _ := hcall
                clear hcall
                go_wp2_with fail
                refine (HQ.out _ S1.out).mono ?_
                rintro e_ w3 ⟨rfl, d3, M1, S1_⟩
                have S4 : Aside (SW enc w0 blk off d3 w3) := S1_
                have MR : Hid (Merged (ltOf cf) c b d d3) := M1
                clear M1 S1_ S1 HQ
                have MF : Hid (Merged (ltOf cf) a b d d3) := merged_from M2.out.perm (merged_both PO.out (by omega) (by omega) (by exact hb) HH.out ML.out MR.out)
                go_wp2
                all_goals go_end0
                all_goals exact ⟨rfl, d3, MF.out, S4.out⟩
              · have p1z : (s : Int) < (m : Int) := by omega
                have p2z : ¬ (m : Int) < (e : Int) := by omega
                have p3z : ¬ (a : Int) < (s : Int) := by omega
                have p4z : ¬ (e : Int) < (b : Int) := by omega
                have p5z : ¬ (s : Int) < (c : Int) := by omega
                have p6z : (c : Int) < (e : Int) := by omega
                have M2 : Hid (Mv (rotf s m e) a b d d) := (Mv.refl a b d).as (fun x => by rw [show m = e by omega]; exact (rot_none (by omega) x).symm)
                have HH : Hid (Halves (ltOf cf) a s c e b d) := by have h_ := halves PO.out ham hmb PA.out PB.out PX.out CUT.out (by rw [← EC.out, ← EE.out]; exact M2.out); rw [← EC.out, ← EE.out] at h_; exact h_
                have ML : Hid (Merged (ltOf cf) a c d d) := merged_left (by omega) (by omega) HH.out.a1 HH.out.a2 (by omega)
                have RT : Hid (Asc (ltOf cf) c e d ∧ Asc (ltOf cf) e b d ∧ Cross c e b d) := right_as HH.out ML.out.perm (by omega)
                have MR : Hid (Merged (ltOf cf) c b d d) := merged_left (by omega) (by omega) RT.out.1 RT.out.2.1 (by omega)
                have MF : Hid (Merged (ltOf cf) a b d d) := merged_from M2.out.perm (merged_both PO.out (by omega) (by omega) (by exact hb) HH.out ML.out MR.out)
                go_wp2
                all_goals go_end0
                all_goals exact ⟨rfl, d, MF.out, S1.out⟩
        · by_cases p2 : m < e
          · by_cases p3 : a < s
            · by_cases p4 : e < b
              · have p1z : ¬ (s : Int) < (m : Int) := by omega
                have p2z : (m : Int) < (e : Int) := by omega
                have p3z : (a : Int) < (s : Int) := by omega
                have p4z : (e : Int) < (b : Int) := by omega
                have p5z : (s : Int) < (c : Int) := by omega
                have p6z : ¬ (c : Int) < (e : Int) := by omega
                have M2 : Hid (Mv (rotf s m e) a b d d) := (Mv.refl a b d).as (fun x => by rw [show s = m by omega]; exact (rot_none' (by omega) x).symm)
                have HH : Hid (Halves (ltOf cf) a s c e b d) := by have h_ := halves PO.out ham hmb PA.out PB.out PX.out CUT.out (by rw [← EC.out, ← EE.out]; exact M2.out); rw [← EC.out, ← EE.out] at h_; exact h_
                have hI := HI.out
                have hcall := fun W (SW_ : SW enc w0 blk off d W) => hI a s c d W (by omega) rfl SW_ p3 (by omega) (by omega) HH.out.a1 HH.out.a2 HH.out.c1
                clear hI
                have HQ : Aside _ := hcall
                clear hcall
                go_wp2_with fail
                refine (HQ.out _ S1.out).mono ?_
                rintro e_ w2 ⟨rfl, d2, M1, S1_⟩
                have S3 : Aside (SW enc w0 blk off d2 w2) := S1_
                have ML : Hid (Merged (ltOf cf) a c d d2) := M1
                clear M1 S1_ S1 HQ
                have hd2 : Hid (d2.size = d.size) := ML.out.perm.1.trans rfl
                have RT : Hid (Asc (ltOf cf) c e d2 ∧ Asc (ltOf cf) e b d2 ∧ Cross c e b d2) := right_as HH.out ML.out.perm (by omega)
                have MR : Hid (Merged (ltOf cf) c b d2 d2) := merged_left (by omega) (by omega) RT.out.1 RT.out.2.1 (by omega)
                have MF : Hid (Merged (ltOf cf) a b d d2) := merged_from M2.out.perm (merged_both PO.out (by omega) (by omega) (by exact hb) HH.out ML.out MR.out)
                go_wp2
                all_goals go_end0
                all_goals exact ⟨rfl, d2, MF.out, S3.out⟩
              · have p1z : ¬ (s : Int) < (m : Int) := by omega
                have p2z : (m : Int) < (e : Int) := by omega
                have p3z : (a : Int) < (s : Int) := by omega
                have p4z : ¬ (e : Int) < (b : Int) := by omega
                have p5z : (s : Int) < (c : Int) := by omega
                have p6z : ¬ (c : Int) < (e : Int) := by omega
                have M2 : Hid (Mv (rotf s m e) a b d d) := (Mv.refl a b d).as (fun x => by rw [show s = m by omega]; exact (rot_none' (by omega) x).symm)
                have HH : Hid (Halves (ltOf cf) a s c e b d) := by have h_ := halves PO.out ham hmb PA.out PB.out PX.out CUT.out (by rw [← EC.out, ← EE.out]; exact M2.out); rw [← EC.out, ← EE.out] at h_; exact h_
                have hI := HI.out
                have hcall := fun W (SW_ : SW enc w0 blk off d W) => hI a s c d W (by omega) rfl SW_ p3 (by omega) (by omega) HH.out.a1 HH.out.a2 HH.out.c1
                clear hI
                have HQ : Aside _ := hcall
                clear hcall
                go_wp2_with fail
                refine (HQ.out _ S1.out).mono ?_
                rintro e_ w2 ⟨rfl, d2, M1, S1_⟩
                have S3 : Aside (SW enc w0 blk off d2 w2) := S1_
                have ML : Hid (Merged (ltOf cf) a c d d2) := M1
                clear M1 S1_ S1 HQ
                have hd2 : Hid (d2.size = d.size) := ML.out.perm.1.trans rfl
                have RT : Hid (Asc (ltOf cf) c e d2 ∧ Asc (ltOf cf) e b d2 ∧ Cross c e b d2) := right_as HH.out ML.out.perm (by omega)
                have MR : Hid (Merged (ltOf cf) c b d2 d2) := merged_left (by omega) (by omega) RT.out.1 RT.out.2.1 (by omega)
                have MF : Hid (Merged (ltOf cf) a b d d2) := merged_from M2.out.perm (merged_both PO.out (by omega) (by omega) (by exact hb) HH.out ML.out MR.out)
                go_wp2
                all_goals go_end0
                all_goals exact ⟨rfl, d2, MF.out, S3.out⟩
            · by_cases p4 : e < b
              · have p1z : ¬ (s : Int) < (m : Int) := by omega
                have p2z : (m : Int) < (e : Int) := by omega
                have p3z : ¬ (a : Int) < (s : Int) := by omega
                have p4z : (e : Int) < (b : Int) := by omega
                have p5z : (s : Int) < (c : Int) := by omega
                have p6z : ¬ (c : Int) < (e : Int) := by omega
                have M2 : Hid (Mv (rotf s m e) a b d d) := (Mv.refl a b d).as (fun x => by rw [show s = m by omega]; exact (rot_none' (by omega) x).symm)
                have HH : Hid (Halves (ltOf cf) a s c e b d) := by have h_ := halves PO.out ham hmb PA.out PB.out PX.out CUT.out (by rw [← EC.out, ← EE.out]; exact M2.out); rw [← EC.out, ← EE.out] at h_; exact h_
                have ML : Hid (Merged (ltOf cf) a c d d) := merged_left (by omega) (by omega) HH.out.a1 HH.out.a2 (by omega)
                have RT : Hid (Asc (ltOf cf) c e d ∧ Asc (ltOf cf) e b d ∧ Cross c e b d) := right_as HH.out ML.out.perm (by omega)
                have MR : Hid (Merged (ltOf cf) c b d d) := merged_left (by omega) (by omega) RT.out.1 RT.out.2.1 (by omega)
                have MF : Hid (Merged (ltOf cf) a b d d) := merged_from M2.out.perm (merged_both PO.out (by omega) (by omega) (by exact hb) HH.out ML.out MR.out)
                go_wp2
                all_goals go_end0
                all_goals exact ⟨rfl, d, MF.out, S1.out⟩
              · have p1z : ¬ (s : Int) < (m : Int) := by omega
                have p2z : (m : Int) < (e : Int) := by omega
                have p3z : ¬ (a : Int) < (s : Int) := by omega
                have p4z : ¬ (e : Int) < (b : Int) := by omega
                have p5z : (s : Int) < (c : Int) := by omega
                have p6z : ¬ (c : Int) < (e : Int) := by omega
                have M2 : Hid (Mv (rotf s m e) a b d d) := (Mv.refl a b d).as (fun x => by rw [show s = m by omega]; exact (rot_none' (by omega) x).symm)
                have HH : Hid (Halves (ltOf cf) a s c e b d) := by have h_ := halves PO.out ham hmb PA.out PB.out PX.out CUT.out (by rw [← EC.out, ← EE.out]; exact M2.out); rw [← EC.out, ← EE.out] at h_; exact h_
                have ML : Hid (Merged (ltOf cf) a c d d) := merged_left (by omega) (by omega) HH.out.a1 HH.out.a2 (by omega)
                have RT : Hid (Asc (ltOf cf) c e d ∧ Asc (ltOf cf) e b d ∧ Cross c e b d) := right_as HH.out ML.out.perm (by omega)
                have MR : Hid (Merged (ltOf cf) c b d d) := merged_left (by omega) (by omega) RT.out.1 RT.out.2.1 (by omega)
                have MF : Hid (Merged (ltOf cf) a b d d) := merged_from M2.out.perm (merged_both PO.out (by omega) (by omega) (by exact hb) HH.out ML.out MR.out)
                go_wp2
                all_goals go_end0
                all_goals exact ⟨rfl, d, MF.out, S1.out⟩
          · by_cases p3 : a < s
            · by_cases p4 : e < b
              · have p1z : ¬ (s : Int) < (m : Int) := by omega
                have p2z : ¬ (m : Int) < (e : Int) := by omega
                have p3z : (a : Int) < (s : Int) := by omega
                have p4z : (e : Int) < (b : Int) := by omega
                have p5z : ¬ (s : Int) < (c : Int) := by omega
                have p6z : ¬ (c : Int) < (e : Int) := by omega
                have M2 : Hid (Mv (rotf s m e) a b d d) := (Mv.refl a b d).as (fun x => by rw [show m = e by omega]; exact (rot_none (by omega) x).symm)
                have HH : Hid (Halves (ltOf cf) a s c e b d) := by have h_ := halves PO.out ham hmb PA.out PB.out PX.out CUT.out (by rw [← EC.out, ← EE.out]; exact M2.out); rw [← EC.out, ← EE.out] at h_; exact h_
                have ML : Hid (Merged (ltOf cf) a c d d) := merged_left (by omega) (by omega) HH.out.a1 HH.out.a2 (by omega)
                have RT : Hid (Asc (ltOf cf) c e d ∧ Asc (ltOf cf) e b d ∧ Cross c e b d) := right_as HH.out ML.out.perm (by omega)
                have MR : Hid (Merged (ltOf cf) c b d d) := merged_left (by omega) (by omega) RT.out.1 RT.out.2.1 (by omega)
                have MF : Hid (Merged (ltOf cf) a b d d) := merged_from M2.out.perm (merged_both PO.out (by omega) (by omega) (by exact hb) HH.out ML.out MR.out)
                go_wp2
                all_goals go_end0
                all_goals exact ⟨rfl, d, MF.out, S1.out⟩
              · have p1z : ¬ (s : Int) < (m : Int) := by omega
                have p2z : ¬ (m : Int) < (e : Int) := by omega
                have p3z : (a : Int) < (s : Int) := by omega
                have p4z : ¬ (e : Int) < (b : Int) := by omega
                have p5z : ¬ (s : Int) < (c : Int) := by omega
                have p6z : ¬ (c : Int) < (e : Int) := by omega
                have M2 : Hid (Mv (rotf s m e) a b d d) := (Mv.refl a b d).as (fun x => by rw [show m = e by omega]; exact (rot_none (by omega) x).symm)
                have HH : Hid (Halves (ltOf cf) a s c e b d) := by have h_ := halves PO.out ham hmb PA.out PB.out PX.out CUT.out (by rw [← EC.out, ← EE.out]; exact M2.out); rw [← EC.out, ← EE.out] at h_; exact h_
                have ML : Hid (Merged (ltOf cf) a c d d) := merged_left (by omega) (by omega) HH.out.a1 HH.out.a2 (by omega)
                have RT : Hid (Asc (ltOf cf) c e d ∧ Asc (ltOf cf) e b d ∧ Cross c e b d) := right_as HH.out ML.out.perm (by omega)
                have MR : Hid (Merged (ltOf cf) c b d d) := merged_left (by omega) (by omega) RT.out.1 RT.out.2.1 (by omega)
                have MF : Hid (Merged (ltOf cf) a b d d) := merged_from M2.out.perm (merged_both PO.out (by omega) (by omega) (by exact hb) HH.out ML.out MR.out)
                go_wp2
                all_goals go_end0
                all_goals exact ⟨rfl, d, MF.out, S1.out⟩
            · by_cases p4 : e < b
              · have p1z : ¬ (s : Int) < (m : Int) := by omega
                have p2z : ¬ (m : Int) < (e : Int) := by omega
                have p3z : ¬ (a : Int) < (s : Int) := by omega
                have p4z : (e : Int) < (b : Int) := by omega
                have p5z : ¬ (s : Int) < (c : Int) := by omega
                have p6z : ¬ (c : Int) < (e : Int) := by omega
                have M2 : Hid (Mv (rotf s m e) a b d d) := (Mv.refl a b d).as (fun x => by rw [show m = e by omega]; exact (rot_none (by omega) x).symm)
                have HH : Hid (Halves (ltOf cf) a s c e b d) := by have h_ := halves PO.out ham hmb PA.out PB.out PX.out CUT.out (by rw [← EC.out, ← EE.out]; exact M2.out); rw [← EC.out, ← EE.out] at h_; exact h_
                have ML : Hid (Merged (ltOf cf) a c d d) := merged_left (by omega) (by omega) HH.out.a1 HH.out.a2 (by omega)
                have RT : Hid (Asc (ltOf cf) c e d ∧ Asc (ltOf cf) e b d ∧ Cross c e b d) := right_as HH.out ML.out.perm (by omega)
                have MR : Hid (Merged (ltOf cf) c b d d) := merged_left (by omega) (by omega) RT.out.1 RT.out.2.1 (by omega)
                have MF : Hid (Merged (ltOf cf) a b d d) := merged_from M2.out.perm (merged_both PO.out (by omega) (by omega) (by exact hb) HH.out ML.out MR.out)
                go_wp2
                all_goals go_end0
                all_goals exact ⟨rfl, d, MF.out, S1.out⟩
              · have p1z : ¬ (s : Int) < (m : Int) := by omega
                have p2z : ¬ (m : Int) < (e : Int) := by omega
                have p3z : ¬ (a : Int) < (s : Int) := by omega
                have p4z : ¬ (e : Int) < (b : Int) := by omega
                have p5z : ¬ (s : Int) < (c : Int) := by omega
                have p6z : ¬ (c : Int) < (e : Int) := by omega
                have M2 : Hid (Mv (rotf s m e) a b d d) := (Mv.refl a b d).as (fun x => by rw [show m = e by omega]; exact (rot_none (by omega) x).symm)
                have HH : Hid (Halves (ltOf cf) a s c e b d) := by have h_ := halves PO.out ham hmb PA.out PB.out PX.out CUT.out (by rw [← EC.out, ← EE.out]; exact M2.out); rw [← EC.out, ← EE.out] at h_; exact h_
                have ML : Hid (Merged (ltOf cf) a c d d) := merged_left (by omega) (by omega) HH.out.a1 HH.out.a2 (by omega)
                have RT : Hid (Asc (ltOf cf) c e d ∧ Asc (ltOf cf) e b d ∧ Cross c e b d) := right_as HH.out ML.out.perm (by omega)
                have MR : Hid (Merged (ltOf cf) c b d d) := merged_left (by omega) (by omega) RT.out.1 RT.out.2.1 (by omega)
                have MF : Hid (Merged (ltOf cf) a b d d) := merged_from M2.out.perm (merged_both PO.out (by omega) (by omega) (by exact hb) HH.out ML.out MR.out)
                go_wp2
                all_goals go_end0
                all_goals exact ⟨rfl, d, MF.out, S1.out⟩
set_option maxHeartbeats 400000 in
theorem symMerge (L : Lay1 P) (hO : SWO (ltOf cf)) (g : Nat) (cb : Array Value) (cap N : Nat) (eg : ∀ args w, (callFunc g args).run P w = .ok (.enter g args) w) (hcmp : CmpLays1 P g cb enc cf blk off N w0) (R : Row1 enc w0 blk off d0) (hs : d0.size = N) (hsz : N < 4611686018427387904) :
    ∀ (t a m b : Nat) (d : Array Nat) (w : World), b - a ≤ t → d.size = N → SW enc w0 blk off d w → a < m → m < b → b ≤ N → Asc (ltOf cf) a m d → Asc (ltOf cf) m b d → Cross a m b d →
      Calls P 133 #[.slice (some ⟨blk, off, none⟩) N cap, .int .i64 a, .int .i64 m, .int .i64 b, .func (.func g) #[] cb] w fun e w' => e = .returned (.tuple #[]) ∧ ∃ d', Merged (ltOf cf) a b d d' ∧ SW enc w0 blk off d' w' := by
  intro t
  induction t with
  | zero => intro a m b d w ht _ _ ham hmb; omega
  | succ t ih =>
    intro a m b d w ht hd S ham hmb hb hA hB hX
    subst hd
    by_cases h1 : m = a + 1
    · exact symUp L hO g cb cap a m b d w eg hcmp R hs S ham hmb hb hsz hA hB hX h1
    · by_cases h2 : b = m + 1
      · exact symDown L hO g cb cap a m b d w eg hcmp R hs S ham hmb hb hsz hA hB hX h2 h1
      · exact symBoth L hO g cb cap a m b d w eg hcmp R hs S ham hmb hb hsz hA hB hX h1 h2 (fun a' m' b' d' w' hlt hs' S' h1' h2' h3' A' B' X' => ih a' m' b' d' w' (by omega) hs' S' h1' h2' h3' A' B' X')
end
end Go.Proofs.Ytiaajmnmbjheoaa.Stable1
