/- slices.SortStableFunc at elements of three cells and a comparison that may lay blocks: the callees that move: swapRange, rotate. No condition beyond what each says. -/
import Derived.Test.YtiaajmnmbjheoaaStableA
import Derived.Test.YtiaajmnmbjheoaaProg
import Derived.Shelf.SlSortCmp.Kit1
import Derived.Deep.LoopGhost
namespace Go.Proofs.Ytiaajmnmbjheoaa.Stable1
open Go.Shelf Go.RowKit Go.Lib Go.Sort Go.Proofs.Ytiaajmnmbjheoaa.Stable
set_option linter.unusedVariables false
set_option linter.unusedSimpArgs false
/-- What the walks lean on: the bodies, their types. -/
structure Lay1 (P : Program) : Prop where
  mixed : P.follows .mixedOrders = true
  fSwap : P.funcs[160]? = some Try.f160
  fRot : P.funcs[154]? = some Try.f154
  fSym : P.funcs[133]? = some Try.f133
  fStable : P.funcs[106]? = some Try.f106
  fSort : P.funcs[80]? = some Try.f80
  t0 : P.underlying 0 = some (TypeDesc.tuple #[])
  a0 : ∀ w, (isAgg 0).run P w = .ok false w
  z0 : ∀ w, (Go.sizeOf 0).run P w = .ok 1 w
  v0 : ∀ w, (zeroValue 0).run P w = .ok (Value.tuple #[]) w
  t3 : P.underlying 3 = some (TypeDesc.int IntKind.i64)
  a3 : ∀ w, (isAgg 3).run P w = .ok false w
  z3 : ∀ w, (Go.sizeOf 3).run P w = .ok 1 w
  v3 : ∀ w, (zeroValue 3).run P w = .ok (Value.int IntKind.i64 0) w
  t4 : P.underlying 4 = some (TypeDesc.bool)
  a4 : ∀ w, (isAgg 4).run P w = .ok false w
  z4 : ∀ w, (Go.sizeOf 4).run P w = .ok 1 w
  v4 : ∀ w, (zeroValue 4).run P w = .ok (Value.bool false) w
  tR : P.underlying 74 = some (TypeDesc.slice 3)
  aR : ∀ w, (isAgg 74).run P w = .ok false w
  zR : ∀ w, (Go.sizeOf 74).run P w = .ok 1 w
  vR : ∀ w, (zeroValue 74).run P w = .ok (Value.slice none 0 0) w
  tC : P.underlying 119 = some (TypeDesc.func #[3, 3] #[3] false)
  aC : ∀ w, (isAgg 119).run P w = .ok false w
  zC : ∀ w, (Go.sizeOf 119).run P w = .ok 1 w
  vC : ∀ w, (zeroValue 119).run P w = .ok (Value.nilFunc) w
  tU : P.underlying 139 = some (TypeDesc.int IntKind.u64)
  aU : ∀ w, (isAgg 139).run P w = .ok false w
  zU : ∀ w, (Go.sizeOf 139).run P w = .ok 1 w
  vU : ∀ w, (zeroValue 139).run P w = .ok (Value.int IntKind.u64 0) w
theorem lay : Lay1 Try.prog := ⟨by kernel_rfl, Try.func160, Try.func154, Try.func133, Try.func106, Try.func80, Try.underlying0, Try.isAgg0, Try.sizeOf0, Try.zeroValue0, Try.underlying3, Try.isAgg3, Try.sizeOf3, Try.zeroValue3, Try.underlying4, Try.isAgg4, Try.sizeOf4, Try.zeroValue4, Try.underlying74, Try.isAgg74, Try.sizeOf74, Try.zeroValue74, Try.underlying119, Try.isAgg119, Try.sizeOf119, Try.zeroValue119, Try.underlying139, Try.isAgg139, Try.sizeOf139, Try.zeroValue139⟩
section
variable {P : Program} {enc : Nat → Value} {blk off : Nat} {d0 : Array Nat} {w0 : World}
set_option maxHeartbeats 4000000 in
set_option maxRecDepth 1000000 in
theorem swapRange (L : Lay1 P) (g : Nat) (cb : Array Value) (cap a b n lo hi : Nat) (d : Array Nat) (w : World) (R : Row1 enc w0 blk off d0) (hs : d0.size = d.size) (S : SW enc w0 blk off d w)
    (hla : lo ≤ a) (hab : a + n ≤ b) (hb : b + n ≤ hi) (hhi : hi ≤ d.size) (hsz : d.size < 4611686018427387904) :
    Calls P 160 #[.slice (some ⟨blk, off, none⟩) d.size cap, .int .i64 a, .int .i64 b, .int .i64 n, .func (.func g) #[] cb] w fun e w' => e = .returned (.tuple #[]) ∧ ∃ d', Mv (swf a b n) lo hi d d' ∧ SW enc w0 blk off d' w' := by
  have mixed := L.mixed; have t0 := L.t0; have a0 := L.a0; have z0 := L.z0; have v0 := L.v0; have t3 := L.t3; have a3 := L.a3; have z3 := L.z3; have v3 := L.v3; have t4 := L.t4; have a4 := L.a4; have z4 := L.z4; have v4 := L.v4; have tR := L.tR; have aR := L.aR; have zR := L.zR; have vR := L.vR; have tC := L.tC; have aC := L.aC; have zC := L.zC; have vC := L.vC; have tU := L.tU; have aU := L.aU; have zU := L.zU; have vU := L.vU; have uR := run_underlying L.tR
  have hcl0 := R.hO.cells
  simp only [Value.cells] at hcl0
  have hst := R.hO.store P
  have FG := L.fSwap
  have S0 : Aside (SW enc w0 blk off d w) := S
  clear S
  go_enter FG, Try.ntmps160
  go_wp2
  go_loopg [10] n (fun kx s10 wr => ∃ (i : Nat) (dk : Array Nat), s10 = .int .i64 i ∧ i ≤ n ∧ n - i ≤ kx ∧ Hid (Mv (swf a b i) lo hi d dk) ∧ Aside (SW enc w0 blk off dk wr))
  case atStart => exact ⟨0, d, rfl, Nat.zero_le _, by omega, (Mv.refl lo hi d).as (fun i => (swf_zero a b i).symm), S0⟩
  case round =>
    clear S0
    obtain ⟨i, dk, rfl, hin, hkx, hm, S1⟩ := hrel
    have hds : dk.size = d.size := hm.out.size
    by_cases hlt : i < n
    · have hltz : (i : Int) < (n : Int) := by omega
      go_wp2_with fail
      obtain ⟨iN4, hiN4⟩ : ∃ z_, z_ = a + i := ⟨_, rfl⟩
      obtain ⟨jN4, hjN4⟩ : ∃ z_, z_ = b + i := ⟨_, rfl⟩
      have ea4 : (((a : Int) + (i : Int))).toNat = iN4 := by omega
      have pa4 : (0 : Int) ≤ ((a : Int) + (i : Int)) := by omega
      have ba4 : ((a : Int) + (i : Int)) < (d.size : Int) := by omega
      have ra4 : IntKind.i64.wrap (((a : Int) + (i : Int))) = ((a : Int) + (i : Int)) := by rw [IntKind.wrap_i64]; omega
      have ec4 : (((b : Int) + (i : Int))).toNat = jN4 := by omega
      have pc4 : (0 : Int) ≤ ((b : Int) + (i : Int)) := by omega
      have bc4 : ((b : Int) + (i : Int)) < (d.size : Int) := by omega
      have rc4 : IntKind.i64.wrap (((b : Int) + (i : Int))) = ((b : Int) + (i : Int)) := by rw [IntKind.wrap_i64]; omega
      obtain ⟨x4, hx4⟩ : ∃ x, x = dk[a + i]! := ⟨_, rfl⟩
      obtain ⟨y4, hy4⟩ : ∃ x, x = dk[b + i]! := ⟨_, rfl⟩
      have M2 : Hid (Mv (swf a b (i + 1)) lo hi d (swp dk (a + i) (b + i))) := (hm.out.trans (Mv.swp dk (lo := lo) (hi := hi) (i := a + i) (j := b + i) (by omega) (by omega) (by omega) (by omega) (by omega))).as (fun x => swf_next (by omega) x)
      obtain ⟨dn, hdn⟩ : ∃ z_, z_ = swp dk (a + i) (b + i) := ⟨_, rfl⟩
      rw [← hdn] at M2
      have S2 : Aside (SW enc w0 blk off dn ((wr.setCell ⟨blk, off + iN4, none⟩ (enc y4)).setCell ⟨blk, off + jN4, none⟩ (enc x4)).drew) := by rw [hdn, hiN4, hjN4, hx4, hy4]; exact S1.out.swapped R (a + i) (b + i) (by omega) (by omega)
      have c4a : wr.cell? ⟨blk, off + iN4, none⟩ = some (enc x4) := by rw [hiN4, hx4]; exact S1.out.c1 R (by omega) (a + i) (by omega)
      have c4b : wr.cell? ⟨blk, off + jN4, none⟩ = some (enc y4) := by rw [hjN4, hy4]; exact S1.out.c1 R (by omega) (b + i) (by omega)
      have f4a : wr.frozen? ⟨blk, off + iN4, none⟩ = false := by rw [hiN4]; exact S1.out.f1 R (by omega) (a + i) (by omega)
      have f4b : wr.frozen? ⟨blk, off + jN4, none⟩ = false := by rw [hjN4]; exact S1.out.f1 R (by omega) (b + i) (by omega)
      obtain ⟨u4, c4c⟩ : ∃ u, (wr.setCell ⟨blk, off + iN4, none⟩ (enc y4)).cell? ⟨blk, off + jN4, none⟩ = some u := by rw [hiN4, hjN4]; exact S1.out.c2 R (by omega) (a + i) (b + i) (by omega) (by omega) (enc y4)
      clear S1 hm hx4 hy4 hiN4 hjN4 hdn
      go_big_region_o
      clear c4a c4b c4c f4a f4b
      generalize ((wr.setCell ⟨blk, off + iN4, none⟩ (enc y4)).setCell ⟨blk, off + jN4, none⟩ (enc x4)).drew = w2 at S2 ⊢
      clear ea4 ec4
      go_wp2
      go_roundg (n - (i + 1))
      case measure => omega
      case rel => exact ⟨i + 1, dn, by go_num, by omega, by omega, M2, S2⟩
    · have hltz : ¬ (i : Int) < (n : Int) := by omega
      have e : i = n := by omega
      subst e
      go_wp2
      go_end0
      exact ⟨rfl, dk, hm.out, S1.out⟩
set_option maxHeartbeats 4000000 in
set_option maxRecDepth 1000000 in
theorem rotate (L : Lay1 P) (g : Nat) (cb : Array Value) (cap a m b lo hi : Nat) (d : Array Nat) (w : World) (R : Row1 enc w0 blk off d0) (hs : d0.size = d.size) (S : SW enc w0 blk off d w)
    (hla : lo ≤ a) (ham : a < m) (hmb : m < b) (hb : b ≤ hi) (hhi : hi ≤ d.size) (hsz : d.size < 4611686018427387904) :
    Calls P 154 #[.slice (some ⟨blk, off, none⟩) d.size cap, .int .i64 a, .int .i64 m, .int .i64 b, .func (.func g) #[] cb] w fun e w' => e = .returned (.tuple #[]) ∧ ∃ d', Mv (rotf a m b) lo hi d d' ∧ SW enc w0 blk off d' w' := by
  have mixed := L.mixed; have t0 := L.t0; have a0 := L.a0; have z0 := L.z0; have v0 := L.v0; have t3 := L.t3; have a3 := L.a3; have z3 := L.z3; have v3 := L.v3; have t4 := L.t4; have a4 := L.a4; have z4 := L.z4; have v4 := L.v4; have tR := L.tR; have aR := L.aR; have zR := L.zR; have vR := L.vR; have tC := L.tC; have aC := L.aC; have zC := L.zC; have vC := L.vC; have tU := L.tU; have aU := L.aU; have zU := L.zU; have vU := L.vU; have uR := run_underlying L.tR
  have hcl0 := R.hO.cells
  simp only [Value.cells] at hcl0
  have hst := R.hO.store P
  have FG := L.fRot
  have eS : ∀ args w, (callFunc 160 args).run P w = .ok (.enter 160 args) w := enters_of L.fSwap (by kernel_rfl) rfl
  have S0 : Aside (SW enc w0 blk off d w) := S
  have HL : Aside (Lay1 P) := L
  clear S L
  go_enter FG, Try.ntmps154
  have z0_ : (m : Int) - (a : Int) = ((m - a : Nat) : Int) := by omega
  have z1_ : (b : Int) - (m : Int) = ((b - m : Nat) : Int) := by omega
  go_wp2
  go_loopg [10, 11] (m - a + (b - m)) (fun kx s10 s11 wr => ∃ (i j : Nat) (dk : Array Nat), s10 = .int .i64 i ∧ s11 = .int .i64 j ∧ 0 < i ∧ 0 < j ∧ i ≤ m - a ∧ j ≤ b - m ∧ i + j ≤ kx ∧ dk.size = d.size ∧ Hid (∀ d', Mv (rotf (m - i) m (m + j)) lo hi dk d' → Mv (rotf a m b) lo hi d d') ∧ Aside (SW enc w0 blk off dk wr))
  case atStart => exact ⟨m - a, b - m, d, by first | rfl | (rw [← z0_]) | (congr 1; omega), by first | rfl | (rw [← z1_]) | (congr 1; omega), by omega, by omega, Nat.le_refl _, Nat.le_refl _, by omega, rfl, (fun d' h => h.as (fun x => by rw [show m - (m - a) = a by omega, show m + (b - m) = b by omega])), S0⟩
  case round =>
    clear S0
    obtain ⟨i, j, dk, rfl, rfl, hi0, hj0, him, hjm, hkx, hds, hm, S1⟩ := hrel
    have x1 : (m : Int) - (i : Int) = ((m - i : Nat) : Int) := by omega
    by_cases c1 : i = j
    · subst c1
      have d1 : ((i : Int) != (i : Int)) = false := bne_self_eq_false _
      have hcall := fun W (SW_ : SW enc w0 blk off dk W) => swapRange HL.out g cb cap (m - i) m i lo hi dk W R (by omega) SW_ (by omega) (by omega) (by omega) (by omega) (by omega)
      rw [hds] at hcall
      have HC : Aside _ := hcall
      clear hcall
      go_wp2_with fail
      refine (HC.out _ S1.out).mono ?_
      rintro e w' ⟨rfl, d', M', S'⟩
      have S2 : Aside (SW enc w0 blk off d' w') := S'
      have M2 : Hid (Mv (rotf a m b) lo hi d d') := hm.out _ (M'.as (fun x => rot_eq (by omega) x))
      clear S' M' S1 hm
      go_wp2
      go_end0
      exact ⟨rfl, d', M2.out, S2.out⟩
    · have d1 : ((i : Int) != (j : Int)) = true := bne_iff_ne.2 (by omega)
      by_cases c2 : j < i
      · have d2 : decide ((i : Int) > (j : Int)) = true := decide_eq_true (by omega)
        have d3 : (j : Int) < (i : Int) := by omega
        have x2 : (i : Int) - (j : Int) = ((i - j : Nat) : Int) := by omega
        have hcall := fun W (SW_ : SW enc w0 blk off dk W) => swapRange HL.out g cb cap (m - i) m j lo hi dk W R (by omega) SW_ (by omega) (by omega) (by omega) (by omega) (by omega)
        rw [hds] at hcall
        have HC : Aside _ := hcall
        clear hcall
        go_wp2_with fail
        refine (HC.out _ S1.out).mono ?_
        rintro e w' ⟨rfl, d', M', S'⟩
        have S2 : Aside (SW enc w0 blk off d' w') := S'
        have hd' : d'.size = d.size := by rw [M'.size]; exact hds
        have M2 : Hid (∀ d'', Mv (rotf (m - (i - j)) m (m + j)) lo hi d' d'' → Mv (rotf a m b) lo hi d d'') := fun d'' h => hm.out _ ((M'.trans h).as (fun x => rot_gt c2 (by omega) x))
        clear S' M' S1 hm
        go_wp2
        go_roundg (i - j + j)
        case measure => omega
        case rel => exact ⟨i - j, j, d', by first | rfl | (rw [← x2]) | (congr 1; omega), rfl, by omega, hj0, by omega, hjm, Nat.le_refl _, hd', M2, S2⟩
      · have d2 : decide ((i : Int) > (j : Int)) = false := decide_eq_false (by omega)
        have d3 : ¬ (j : Int) < (i : Int) := by omega
        have x2 : (j : Int) - (i : Int) = ((j - i : Nat) : Int) := by omega
        have x3 : (m : Int) + (j : Int) - (i : Int) = ((m + j - i : Nat) : Int) := by omega
        have hcall := fun W (SW_ : SW enc w0 blk off dk W) => swapRange HL.out g cb cap (m - i) (m + j - i) i lo hi dk W R (by omega) SW_ (by omega) (by omega) (by omega) (by omega) (by omega)
        rw [hds] at hcall
        have HC : Aside _ := hcall
        clear hcall
        go_wp2_with fail
        refine (HC.out _ S1.out).mono ?_
        rintro e w' ⟨rfl, d', M', S'⟩
        have S2 : Aside (SW enc w0 blk off d' w') := S'
        have hd' : d'.size = d.size := by rw [M'.size]; exact hds
        have M2 : Hid (∀ d'', Mv (rotf (m - i) m (m + (j - i))) lo hi d' d'' → Mv (rotf a m b) lo hi d d'') := fun d'' h => hm.out _ ((M'.trans h).as (fun x => rot_lt (by omega) (by omega) x))
        clear S' M' S1 hm
        go_wp2
        go_roundg (i + (j - i))
        case measure => omega
        case rel => exact ⟨i, j - i, d', rfl, by first | rfl | (rw [← x2]) | (congr 1; omega), hi0, by omega, him, by omega, Nat.le_refl _, hd', M2, S2⟩
end
end Go.Proofs.Ytiaajmnmbjheoaa.Stable1
