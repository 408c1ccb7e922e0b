/-
  PlArc, MomFn, PlCmp, Open, Flat, packed: what the claim needs of them.
-/
import Derived.Test.YtdkejfjcchlnpaaGreatFt01
import Derived.Test.YtdkejfjcchlnpaaGreatFt06
import Derived.Test.YtdkejfjcchlnpaaGreatFt07
import Derived.Deep.DeepCutAuto
import Derived.ProofKit
import Derived.OpenShut
import Derived.ShutString
import Derived.Deep.Slices
set_option maxHeartbeats 40000000
open Go.Lib (hid)
set_option linter.unusedSimpArgs false
set_option linter.unusedVariables false
set_option maxRecDepth 100000
namespace Go.Ox.Pl
abbrev Ar := (Mom.M × Mom.M) × (Bool × Int)
def a8s (x y : Ar) : Int := if Mom.cmp x.1.1 y.1.1 ≠ 0 then Mom.cmp x.1.1 y.1.1 else Mom.cmp x.1.2 y.1.2
end Go.Ox.Pl
namespace Go.Ox
instance encA : Enc Pl.Ar where
 k := 6
 enc x := [.int .i64 x.1.1.1, .int .i64 x.1.1.2, .int .i64 x.1.2.1, .int .i64 x.1.2.2, .bool x.2.1, .int .i64 x.2.2]
 len _ := rfl
 pos := by omega
 one x u hu := by simp at hu; rcases hu with rfl | rfl | rfl | rfl | rfl | rfl <;> rfl
abbrev arV (x : Pl.Ar) : Value := .agg #[.int .i64 x.1.1.1, .int .i64 x.1.1.2, .int .i64 x.1.2.1, .int .i64 x.1.2.2, .bool x.2.1, .int .i64 x.2.2]
end Go.Ox
namespace Go.Proofs.YtdkejfjcchlnpaaGreat
open Go.RowKit Go.Ox Go.Shelf Go.Sort
theorem rowA {w0 : World} {blk off : Nat} {d0 : Array Pl.Ar} (hH : HoldsK encA.enc 6 w0 blk off d0) (hblk : blk < w0.heap.size) : RowK encA.enc 6 w0 blk off d0 := ⟨encA.len, encA.one, hH, hblk⟩
theorem a4A : Tryz.prog.follows Departure.mixedOrders = true := by kernel_rfl
section
variable {w0 : World} {blk off : Nat} {d0 : Array Pl.Ar}
theorem a4b (R : RowK encA.enc 6 w0 blk off d0) {D : Array Pl.Ar} {W : World} (S : SWK encA.enc 6 w0 blk off D W) (hs : D.size = d0.size) (x y : Nat) (hx : x < D.size) (hy : y < D.size) :
 ∃ (kk : Nat) (cA cB : List Value), kk = 6 ∧ cA.length = kk ∧ cB.length = kk ∧
  Sem.run Tryz.prog (loadCellsFrom ⟨blk, off + x * 6, none⟩ 0 kk #[]) W.drew = .ok cA.toArray W.drew ∧
  Sem.run Tryz.prog (loadCellsFrom ⟨blk, off + y * 6, none⟩ 0 kk #[]) W.drew = .ok cB.toArray W.drew ∧
  Sem.run Tryz.prog (storeCells ⟨blk, off + x * 6, none⟩ cB 0) W.drew = .ok () (W.drew.setCells blk (off + x * 6) cB) ∧
  Sem.run Tryz.prog (storeCells ⟨blk, off + y * 6, none⟩ cA 0) (W.drew.setCells blk (off + x * 6) cB) = .ok () ((W.drew.setCells blk (off + x * 6) cB).setCells blk (off + y * 6) cA) ∧
  SWK encA.enc 6 w0 blk off (swp D x y) ((W.drew.setCells blk (off + x * 6) cB).setCells blk (off + y * 6) cA) :=
 ⟨6, encA.enc D[x]!, encA.enc D[y]!, rfl, rfl, rfl, S.ld1 R hs _ x hx, S.ld1 R hs _ y hy, S.st1 R hs _ x hx _, S.st2 R hs _ x y hx hy _ _, S.swapped R x y hx hy⟩
set_option maxRecDepth 1000000 in
theorem a2v (R : RowK encA.enc 6 w0 blk off d0) (f : Value) (cap a b n : Nat) (D : Array Pl.Ar) (W : World) (S : SWK encA.enc 6 w0 blk off D W) (hs : D.size = d0.size) (h1 : a + n <= b) (h2 : b + n <= D.size) (hsz : D.size < 1000000000) :
 Calls Tryz.prog 196 #[.slice (some ⟨blk, off, none⟩) D.size cap, .int .i64 a, .int .i64 b, .int .i64 n, f] W fun e w' =>
  e = .returned (.tuple #[]) ∧ SWK encA.enc 6 w0 blk off (Stab.a2Q a b n D) w' := by
 have HS := hid S;have HRR := hid R;have HB := hid (show a + n <= b ∧ b + n <= D.size ∧ D.size < 1000000000 ∧ D.size = d0.size from ⟨h1, h2, hsz, hs⟩);clear S R h1 h2 hsz hs
 go_enter Tryz.func196, Tryz.ntmps196
 go_wp2
 go_loopg [10] n (fun g vi wr => ∃ i : Nat, vi = .int .i64 (i : Int) ∧ i <= n ∧ n - i <= g ∧ SWK encA.enc 6 w0 blk off (Stab.a2Q a b i D) wr)
 case atStart => exact ⟨0, rfl, Nat.zero_le _, by omega, HS.o⟩
 case round =>
  obtain ⟨i, rfl, hi, hg, hw⟩ := hrel;have HW := hid hw;have HI := hid hi;have HG := hid hg;clear hw hi hg
  by_cases hin : i < n
  . have g1 : (i : Int) < (n : Int) := by omega
    have HIN := hid hin;obtain ⟨x, hx⟩ : ∃ x, x = a + i := ⟨_, rfl⟩;obtain ⟨y, hy⟩ : ∃ y, y = b + i := ⟨_, rfl⟩;have hb := HB.o;have q1 : ((a : Int) + (i : Int)) = (x : Int) := by omega
    have q2 : ((b : Int) + (i : Int)) = (y : Int) := by omega
    have q3 : IntKind.i64.wrap (x : Int) = (x : Int) := IntWalk.i64_in _ (by omega)
    have q4 : IntKind.i64.wrap (y : Int) = (y : Int) := IntWalk.i64_in _ (by omega)
    have z1 : (x : Int) < (D.size : Int) := by omega
    have z2 : (y : Int) < (D.size : Int) := by omega
    have hi9 : (i : Int) + 1 <= 1000000000 := by omega
    obtain ⟨kk, cA, cB, hkk, lA, lB, l1, l2, s1, s2, sw⟩ := a4b HRR.o HW.o (by rw [Stab.a1l]; exact hb.2.2.2) x y (by rw [Stab.a1l]; omega) (by rw [Stab.a1l]; omega)
    have HSW := hid (show SWK encA.enc 6 w0 blk off (Stab.a2Q a b (i + 1) D) _ from by rw [Stab.a2Q, <- hx, <- hy]; exact sw)
    have mixed := a4A;clear hx hy hb sw hin
    go_upto_region 3 with fail
    obtain ⟨T, hT⟩ : ∃ T, T = 144 := ⟨_, rfl⟩;rw [<- hT];have aT : ∀ w, (isAgg T).run Tryz.prog w = .ok true w := by rw [hT]; exact Tryz.isAgg144
    have zT : ∀ w, (Go.sizeOf T).run Tryz.prog w = .ok kk w := by rw [hT, hkk]; exact Tryz.sizeOf144
    clear hT hkk
    go_big_region_o
    all_goals go_wp2
    go_roundg (n - (i + 1))
    case measure => have h1 := HG.o; have h2 := HIN.o; omega
    case rel => exact ⟨i + 1, by first | rfl | go_num, HIN.o, Nat.le_refl _, HSW.o⟩
  . have g1 : ¬ (i : Int) < (n : Int) := by omega
    obtain rfl : i = n := by have := HI.o; omega
    go_wp2
    go_end0
    exact ⟨rfl, HW.o⟩
set_option maxRecDepth 1000000 in
theorem b0o (R : RowK encA.enc 6 w0 blk off d0) (f : Value) (cap a m b : Nat) (D : Array Pl.Ar) (W : World) (S : SWK encA.enc 6 w0 blk off D W) (hs : D.size = d0.size) (h1 : a < m) (h2 : m < b) (h3 : b <= D.size) (hsz : D.size < 1000000000) :
 Calls Tryz.prog 195 #[.slice (some ⟨blk, off, none⟩) D.size cap, .int .i64 a, .int .i64 m, .int .i64 b, f] W fun e w' =>
  e = .returned (.tuple #[]) ∧ ∃ D', SWK encA.enc 6 w0 blk off D' w' ∧ PermIn a b D D' ∧ ∀ k, D'[k]! = Stab.a0H a m b D k := by
 have HS := hid S;have HRR := hid R;have HB := hid (show a < m ∧ m < b ∧ b <= D.size ∧ D.size < 1000000000 ∧ D.size = d0.size from ⟨h1, h2, h3, hsz, hs⟩);obtain ⟨i0, hi0⟩ : ∃ i, i = m - a := ⟨_, rfl⟩;obtain ⟨j0, hj0⟩ : ∃ j, j = b - m := ⟨_, rfl⟩;have q1 : ((m : Int) - (a : Int)) = (i0 : Int) := by omega
 have q2 : ((b : Int) - (m : Int)) = (j0 : Int) := by omega
 have q3 : IntKind.i64.wrap (i0 : Int) = (i0 : Int) := IntWalk.i64_in _ (by omega)
 have q4 : IntKind.i64.wrap (j0 : Int) = (j0 : Int) := IntWalk.i64_in _ (by omega)
 have H0 := hid (show i0 = m - a ∧ j0 = b - m from ⟨hi0, hj0⟩);have HN := hid (show ∀ D', PermIn a b D D' -> D'.size = D.size from fun D' h => h.1)
 clear S R h1 h2 h3 hsz hs hi0 hj0
 go_enter Tryz.func195, Tryz.ntmps195
 go_wp2
 clear q1 q2 q3 q4
 go_loopg [10, 11] (i0 + j0) (fun g vi vj wr => ∃ (i j : Nat) (D' : Array Pl.Ar), vi = .int .i64 (i : Int) ∧ vj = .int .i64 (j : Int) ∧ 0 < i ∧ 0 < j ∧ i <= m - a ∧ j <= b - m ∧ i + j <= g ∧ SWK encA.enc 6 w0 blk off D' wr ∧ PermIn a b D D' ∧ ∀ k, Stab.a0H (m - i) m (m + j) D' k = Stab.a0H a m b D k)
 case atStart => exact ⟨i0, j0, D, rfl, rfl, by have h1 := H0.o; have h2 := HB.o; omega, by have h1 := H0.o; have h2 := HB.o; omega, by have h1 := H0.o; omega, by have h1 := H0.o; omega, Nat.le_refl _, HS.o, permIn_refl D a b, fun k => by have h1 := H0.o; have h2 := HB.o; rw [show m - i0 = a by omega, show m + j0 = b by omega]⟩
 case round =>
  obtain ⟨i, j, D', rfl, rfl, hi, hj, hia, hjb, hg, hw, hp, hr⟩ := hrel;have hb := HB.o;have hD' := HN.o D' hp;have HIJ := hid (show 0 < i ∧ 0 < j ∧ i <= m - a ∧ j <= b - m ∧ i + j <= gk from ⟨hi, hj, hia, hjb, hg⟩);have HP := hid hp;have HR := hid hr;obtain ⟨x, hx⟩ : ∃ x, x = m - i := ⟨_, rfl⟩;have q1 : ((m : Int) - (i : Int)) = (x : Int) := by omega
  have q3 : IntKind.i64.wrap (x : Int) = (x : Int) := IntWalk.i64_in _ (by omega)
  have HXX := hid hx
  by_cases hij : i = j
  . subst hij
    have HC := hid (a2v HRR.o f cap x m i D' wr hw (by omega) (by omega) (by omega) (by omega))
    rw [hD'] at HC;have HF := hid (show ∀ k, (Stab.a2Q x m i D')[k]! = Stab.a0H a m b D k from fun k => by rw [hx, Stab.b0n (by omega) (by omega), hr])
    have HPP := hid (permIn_trans _ _ _ a b hp (Stab.a3a (a := x) (b := m) i D' (by omega) (by omega) (by omega) (by omega) (by omega)))
    clear hb hD' hp hr hw hx hi hj hia hjb hg
    go_wp2_with fail
    refine HC.o.mono ?_;rintro e w1 ⟨rfl, hs1⟩
    go_wp2
    go_end0
    exact ⟨rfl, _, hs1, HPP.o, HF.o⟩
  . have g1 : ((i : Int) == (j : Int)) = false := beq_eq_false_iff_ne.2 (by omega)
    have g2 : ¬ (i : Int) = (j : Int) := by omega
    by_cases hlt : j < i
    . have g3 : (j : Int) < (i : Int) := by omega
      have HC := hid (a2v HRR.o f cap x m j D' wr hw (by omega) (by omega) (by omega) (by omega))
      rw [hD'] at HC;obtain ⟨y, hy⟩ : ∃ y, y = i - j := ⟨_, rfl⟩;have q2 : ((i : Int) - (j : Int)) = (y : Int) := by omega
      have q4 : IntKind.i64.wrap (y : Int) = (y : Int) := IntWalk.i64_in _ (by omega)
      have HF := hid (show ∀ k, Stab.a0H (m - y) m (m + j) (Stab.a2Q x m j D') k = Stab.a0H a m b D k from fun k => by rw [hx, hy, Stab.b0m (by omega) hlt (by omega), hr])
      have HPP := hid (permIn_trans _ _ _ a b hp (Stab.a3a (a := x) (b := m) j D' (by omega) (by omega) (by omega) (by omega) (by omega)))
      have HY := hid (show 0 < y ∧ y <= m - a ∧ y + j + 1 <= i + j from ⟨by omega, by omega, by omega⟩)
      clear hb hD' hp hr hw hx hi hj hia hjb hg hy hlt hij
      go_wp2_with fail
      refine HC.o.mono ?_;rintro e w1 ⟨rfl, hs1⟩
      go_wp2
      go_roundg (y + j)
      case measure => have h1 := HY.o; have h2 := HIJ.o; omega
      case rel => exact ⟨y, j, _, rfl, rfl, HY.o.1, HIJ.o.2.1, HY.o.2.1, HIJ.o.2.2.2.1, Nat.le_refl _, hs1, HPP.o, HF.o⟩
    . have g3 : ¬ (j : Int) < (i : Int) := by omega
      obtain ⟨z, hz⟩ : ∃ z, z = m + j := ⟨_, rfl⟩;obtain ⟨t, ht⟩ : ∃ t, t = m + j - i := ⟨_, rfl⟩;have q5 : ((m : Int) + (j : Int)) = (z : Int) := by omega
      have q6 : IntKind.i64.wrap (z : Int) = (z : Int) := IntWalk.i64_in _ (by omega)
      have q7 : ((z : Int) - (i : Int)) = (t : Int) := by omega
      have q8 : IntKind.i64.wrap (t : Int) = (t : Int) := IntWalk.i64_in _ (by omega)
      have HC := hid (a2v HRR.o f cap x t i D' wr hw (by omega) (by omega) (by omega) (by omega))
      rw [hD'] at HC;obtain ⟨y, hy⟩ : ∃ y, y = j - i := ⟨_, rfl⟩;have q2 : ((j : Int) - (i : Int)) = (y : Int) := by omega
      have q4 : IntKind.i64.wrap (y : Int) = (y : Int) := IntWalk.i64_in _ (by omega)
      have HF := hid (show ∀ k, Stab.a0H (m - i) m (m + y) (Stab.a2Q x t i D') k = Stab.a0H a m b D k from fun k => by rw [hx, hy, ht, Stab.a8B (by omega) (by omega) (by omega), hr])
      have HPP := hid (permIn_trans _ _ _ a b hp (Stab.a3a (a := x) (b := t) i D' (by omega) (by omega) (by omega) (by omega) (by omega)))
      have HY := hid (show 0 < y ∧ y <= b - m ∧ i + y + 1 <= i + j from ⟨by omega, by omega, by omega⟩)
      clear hb hD' hp hr hw hx hi hj hia hjb hg hy hlt hij hz ht
      go_wp2_with fail
      refine HC.o.mono ?_;rintro e w1 ⟨rfl, hs1⟩
      go_wp2
      go_roundg (i + y)
      case measure => have h1 := HY.o; have h2 := HIJ.o; omega
      case rel => exact ⟨i, y, _, rfl, rfl, HIJ.o.1, HY.o.1, HIJ.o.2.2.1, HY.o.2.1, Nat.le_refl _, hs1, HPP.o, HF.o⟩
end
end Go.Proofs.YtdkejfjcchlnpaaGreat
namespace Go.Proofs.YtdkejfjcchlnpaaGreat.Mo
open Go.RowKit Go.Ox Go.Shelf
theorem b1z : Elem Tryz.prog 45 29 (.agg #[.int .i64 0, .int .i64 0]) 2 16 := Elem.mk' Tryz.underlying45 (by kernel_rfl) rfl (by omega)
theorem b5T (w : World) (A : Option Addr) (n c n' c' : Nat) : (binOp .eql 45 (.slice A n c) (.slice none n' c')).run Tryz.prog w = .ok (.bool A.isNone) w :=
 Lib.run_eql_slice_nil (P := Tryz.prog) w 45 29 A n c n' c' Tryz.underlying45
abbrev b3T (x : Mom.M) : List Value := [.int .i64 x.1, .int .i64 x.2]
theorem b0p (A : Option Addr) (c : Nat) (f : Value) (w : World) :
 Calls Tryz.prog 101 #[.slice A 0 c, f] w fun e w' => e = .returned (.int .i64 (-1)) ∧ w = w' := by
 go_enter Tryz.func101, Tryz.ntmps101
 go_wp2
 go_loop [8] (fun i => i = .int .i64 0) (fun _ => 0)
 case atStart => rfl
 case round =>
 subst hrel
 go_wp2
 go_ret
 exact ⟨rfl, rfl⟩
theorem a6O (A : Option Addr) (c : Nat) (f : Value) (w : World) :
 Calls Tryz.prog 69 #[.slice A 0 c, f] w fun e w' => e = .returned (.bool false) ∧ w = w' := by
 go_enter Tryz.func69, Tryz.ntmps69
 go_wp2_with (go_at_call 101; refine (b0p _ _ _ _).mono ?_; rintro e w' ⟨rfl, rfl⟩)
 go_ret
 exact ⟨rfl, rfl⟩
theorem a3B (p : Mom.M -> Bool) (g : Nat) (lb : Array Value) (eg : ∀ args w, (callFunc g args).run Tryz.prog w = .ok (.enter g args) w) (v : Value) (l : List Mom.M) (w : World) (hv : RP w v l)
 (hp : PredBelow Tryz.prog g lb (fun x => .agg (b3T x).toArray) p w) (hl : l.length <= 1000000000) :
 Calls Tryz.prog 69 #[v, .func (.func g) #[] lb] w fun e w' => e = .returned (.bool (l.any p)) ∧ Ext w w' := by
 obtain ⟨A, c, rfl⟩ := hv.form
 by_cases h0 : l.length = 0
 . obtain rfl := List.eq_nil_of_length_eq_zero h0
   exact (a6O A c _ w).mono fun e w' ⟨h1, h2⟩ => ⟨h1, by subst h2; exact Ext.refl _⟩
 obtain ⟨b, o, rfl, hc, _⟩ := hv.at_ (k := 0) (by omega)
 have hcon := AnyQ.slices_ContainsFunc Tryz.containsMo 2 Tryz.isAgg29 Tryz.sizeOf29 b3T (fun _ => rfl) p g lb eg b o l.length c l w hp (Nat.le_refl _) (by omega) (World.block_lt_of_cell? w _ hc) (fun j hj i u hi => by
  obtain ⟨b', o', he, h1, h2⟩ := hv.at_ hj;injection he with he
  injection he with e1 e2
  subst e1 e2;have hg : l[j]! = l[j] := getElem!_pos l j hj;rw [hg] at hi
  match i, hi with
  | 0, hi => simp at hi; rw [<- hi]; exact h1
  | 1, hi => simp at hi; rw [<- hi]; exact h2
  | i + 2, hi => simp at hi)
 rw [List.take_length] at hcon;exact hcon
theorem a7C (w : World) : PredBelow Tryz.prog 79 #[] (fun x => .agg (b3T x).toArray) (fun x => !Mom.ok x) w := fun W x hb => by
 show Calls Tryz.prog 79 #[mV x] W _;have HC := hid (fun w => a0E x w)
 obtain ⟨a, b⟩ := x;dsimp only at *
 cases hq : Mom.ok (a, b) with
 | true =>
  rw [hq, if_pos rfl] at HC
  go_enter Tryz.func79, Tryz.ntmps79
  go_wp2_with (go_at_call 40; refine (HC.o _).mono ?_; rintro e w1 ⟨rfl, he1⟩)
  go_ret
  exact ⟨rfl, hb.trans (((Ext.refl _).alloc _ |>.trans he1).mono hb.size)⟩
 | false =>
  rw [hq, if_neg (by simp)] at HC
  go_enter Tryz.func79, Tryz.ntmps79
  go_wp2_with (go_at_call 40; refine (HC.o _).mono ?_; rintro e w1 ⟨rfl, he1⟩)
  go_ret
  exact ⟨rfl, hb.trans (((Ext.refl _).alloc _ |>.trans he1).mono hb.size)⟩
theorem a6P (m : Mom.M) (B : Nat) (w : World) (hB : B < w.heap.size) (h1 : w.cell? ⟨B, 0, none⟩ = some (.int .i64 m.1)) (h2 : w.cell? ⟨B, 1, none⟩ = some (.int .i64 m.2)) :
 PredBelow Tryz.prog 70 #[.pointer (some ⟨B, 0, none⟩)] (fun x => .agg (b3T x).toArray) (fun x => Mom.ahead x m) w := fun W x hb => by
 show Calls Tryz.prog 70 #[mV x, .pointer (some ⟨B, 0, none⟩)] W _;have HC := hid (fun w => a5d x m w)
 have k1 := (hb.cell (p := ⟨B, 0, none⟩) hB).trans h1;have k2 := (hb.cell (p := ⟨B, 1, none⟩) hB).trans h2;have hne : W.heap.size ≠ B := by have := hb.size; omega
 have e1 := ((Ext.refl W).alloc (.cells #[.int .i64 x.1, .int .i64 x.2] 29)).cell k1;have e2 := ((Ext.refl W).alloc (.cells #[.int .i64 x.1, .int .i64 x.2] 29)).cell k2;obtain ⟨a, b⟩ := x;dsimp only at *;clear h1 h2 k1 k2
 go_enter Tryz.func70, Tryz.ntmps70
 go_wp2_with (go_at_call 71; refine (HC.o _).mono ?_; rintro e w1 ⟨rfl, he1⟩)
 go_ret
 exact ⟨rfl, hb.trans (((Ext.refl _).alloc _ |>.trans he1).mono hb.size)⟩
theorem a4c (v : Value) (l : List Mom.M) (m : Mom.M) (w : World) (hv : RP w v l) (hl : l.length <= 1000000000) :
 Calls Tryz.prog 41 #[v, mV m] w fun e w' => e = .returned (.bool (Mom.a0S l m)) ∧ Ext w w' := by
 have eg : ∀ args w, (callFunc 70 args).run Tryz.prog w = .ok (.enter 70 args) w := enters_of Tryz.func70 (by kernel_rfl) rfl
 have hx := (Ext.refl w).alloc (.cells #[.int .i64 m.1, .int .i64 m.2] 29);have hblk := Blk.new w 29 #[.int .i64 m.1, .int .i64 m.2];have HC := hid (a3B (fun x => Mom.ahead x m) 70 #[.pointer (some ⟨w.heap.size, 0, none⟩)] eg v l _ (hv.ext hx) (a6P m w.heap.size _ (by simp) (hblk.cell 0) (hblk.cell 1)) hl)
 have HX := hid hx;have hd : Mom.a0S l m = l.any fun x => Mom.ahead x m := rfl
 rw [hd];generalize (l.any fun x => Mom.ahead x m) = q at *
 clear hx hblk eg hv hd;obtain ⟨a, b⟩ := m;dsimp only at *
 go_enter Tryz.func41, Tryz.ntmps41
 go_wp2_with (go_at_call 69; refine HC.o.mono ?_; rintro e w1 ⟨rfl, he1⟩)
 go_ret
 exact ⟨rfl, HX.o.trans he1⟩
theorem b0q (v : Value) (l : List Mom.M) (w : World) (hb : RP w v l) (hl : l.length <= 1000000000) :
 Calls Tryz.prog 80 #[v] w fun e w' => ∃ v', e = .returned v' ∧ OP 29 w.heap.size w' v' l ∧ Ext w w' := by
 have HB := hid hb;obtain ⟨A, c, rfl⟩ := hb.form;have hnc := hb.nc;have he := b5T;have HE := he
 cases A with
 | none =>
  obtain ⟨A', c', he', hrd⟩ := hb;injection he' with e1 e2 e3
  subst e1 e3;have h0 := hrd.nil rfl;have hn : l.length = 0 := by omega
  obtain rfl := List.eq_nil_of_length_eq_zero hn;subst h0;clear hrd hn hnc
  go_enter Tryz.func80, Tryz.ntmps80
  go_wp2
  go_ret
  exact ⟨_, rfl, OP.a2g _ _ _, Ext.refl _⟩
 | some ad =>
 clear hb hnc
 have hown : (w.alloc (.cells #[] 29)).ownsRow w.heap.size 29 2 (.slice (some ⟨w.heap.size, 0, none⟩) 0 0) 0 [] :=
  World.ownsRow_lit w #[] 0 (Nat.le_refl _) (by unfold maxLen; omega) rfl
 have HO := hid hown;clear hown
 go_enter Tryz.func80, Tryz.ntmps80
 go_wp2_with (at_builtin; refine a0v rfl b1z _ _ _ rfl w.heap.size _ 0 [] rfl HO.o _ l.length (pV l) rfl (HB.o.ext ((Ext.refl _).alloc _)) (b5i l) (by omega) (by unfold maxLen; omega) (by simp) ?_; intro v' w' ha)
 go_ret
 exact ⟨_, rfl, OP.of0 ha.own, ha.ext ((Ext.refl _).alloc _) rfl HO.o⟩
end Go.Proofs.YtdkejfjcchlnpaaGreat.Mo
namespace Go.Ox.Pl
end Go.Ox.Pl
namespace Go.Proofs.YtdkejfjcchlnpaaGreat
open Go.RowKit Go.Ox Go.Shelf Go.Sort Mo
theorem box6 (w : World) (T : TypeId) (a b c d e f a' b' c' d' e' f' : Value) : ∃ w2, w2 = (w.alloc (.cells #[a, b, c, d, e, f] T)).alloc (.cells #[a', b', c', d', e', f'] T) ∧ a04 w w2 ∧
 w2.cell? ⟨w.heap.size, 0, none⟩ = some a ∧ w2.cell? ⟨w.heap.size, 1, none⟩ = some b ∧ w2.cell? ⟨w.heap.size, 2, none⟩ = some c ∧ w2.cell? ⟨w.heap.size, 3, none⟩ = some d ∧
 w2.cell? ⟨w.heap.size + 1, 0, none⟩ = some a' ∧ w2.cell? ⟨w.heap.size + 1, 1, none⟩ = some b' ∧ w2.cell? ⟨w.heap.size + 1, 2, none⟩ = some c' ∧ w2.cell? ⟨w.heap.size + 1, 3, none⟩ = some d' := by
 have h1 := (Blk.new w T #[a, b, c, d, e, f]).ext ((Ext.refl _).alloc (.cells #[a', b', c', d', e', f'] T));have h2 := Blk.new (w.alloc (.cells #[a, b, c, d, e, f] T)) T #[a', b', c', d', e', f'];have hs : (w.alloc (.cells #[a, b, c, d, e, f] T)).heap.size = w.heap.size + 1 := by simp
 rw [hs] at h2;exact ⟨_, rfl, ((a04.refl _).alloc _).alloc _, h1.cell 0, h1.cell 1, h1.cell 2, h1.cell 3, h2.cell 0, h2.cell 1, h2.cell 2, h2.cell 3⟩
theorem a5e (a b : Mom.M) (w : World) : Calls Tryz.prog 172 #[mV a, mV b] w fun e w' => e = .returned (.int .i64 (Mom.cmp a b)) ∧ a04 w w' := by
 have HC := hid (b5S a b);obtain ⟨a1, a2⟩ := a;obtain ⟨b1, b2⟩ := b;dsimp only at *
 go_enter Tryz.func172, Tryz.ntmps172
 go_wp2
 have hb := a9q w 27 27 (.int .i64 a1) (.int .i64 a2) (.int .i64 b1) (.int .i64 b2);obtain ⟨c1, c2, c3, c4⟩ := hb;generalize hw2 : ((w.alloc (.cells #[.int .i64 a1, .int .i64 a2] 27)).alloc (.cells #[.int .i64 b1, .int .i64 b2] 27)) = w2 at *;have hx : a04 w w2 := by rw [<- hw2]; exact ((a04.refl _).alloc _).alloc _
 clear hw2;refine a1i [] [] a04 a04 (fun _ => True) (by kernel_rfl) (by rfl) (by rfl) (by kernel_rfl) (by kernel_rfl) (by kernel_rfl) (fun _ _ _ x y => x.trans y) a04.refl (fun _ _ x => x) (a04.refl _).drew (fun _ _ x _ => x) trivial ?_
 refine ya ?_;refine yl1 c1 ?_;refine ya ?_;refine yl1 c3 ?_;refine a09 (fun v _ => v = .int .i64 (a1k a1 b1)) rfl rfl (a03 rfl) rfl (by exact a0g) ?_ ?_
 . intro a w' hR h1 h2 K hK
   have e1 : _ = _ := h1;have e2 : _ = _ := h2;go_simp;refine (a0s a1 b1 w').mono ?_;rintro e w2 ⟨rfl, rfl⟩;exact hK _ _ (a04.refl _) rfl
 refine ya ?_;refine yl1 c2 ?_;refine ya ?_;refine yl1 c4 ?_;refine a09 (fun v _ => v = .int .i64 (a1k a2 b2)) rfl rfl (a03 rfl) rfl (by exact a0g) ?_ ?_
 . intro a w' hR h1 h2 K hK
   have e1 : _ = _ := h1;have e2 : _ = _ := h2;go_simp;refine (a0s a2 b2 w').mono ?_;rintro e w2 ⟨rfl, rfl⟩;exact hK _ _ (a04.refl _) rfl
 refine a09 (fun v w2 => Rd w2 1 v 2 [.int .i64 (a1k a1 b1), .int .i64 (a1k a2 b2)]) rfl rfl (a03 rfl) rfl (by first | exact (fun _ _ _ h k => Rd.ext h k) | exact (fun _ _ _ h k => Rd.ext h (a04.ext k)) | exact (fun _ _ _ h k => Rd.extV h k)) ?_ ?_
 . intro a w' hR h1 h2 K hK
   have e1 : _ = _ := h1;have e2 : _ = _ := h2;have q1 : a.tmps[9]?.getD undef = .int .i64 (a1k a1 b1) := by simpa using e1
   have q2 : a.tmps[14]?.getD undef = .int .i64 (a1k a2 b2) := by simpa using e2
   go_simp;exact hK _ _ ((a04.refl _).alloc _) (Rd.lit _ #[.int .i64 (a1k a1 b1), .int .i64 (a1k a2 b2)] _ 2 rfl (by unfold maxLen; omega))
 refine a09 (fun v _ => v = .int .i64 (orI (a1k a1 b1) (a1k a2 b2))) rfl rfl (a03 rfl) rfl a0g ?_ ?_
 . intro a w' hR h1 K hK
   obtain ⟨x, ex, fx⟩ : ∃ x, a.tmps.getD 15 undef = x ∧ (fun v w2 => Rd w2 1 v 2 [.int .i64 (a1k a1 b1), .int .i64 (a1k a2 b2)]) x w' := ⟨_, rfl, h1⟩
   go_simp;refine (b1y _ _ _ w' fx).mono ?_;rintro e w2 ⟨rfl, rfl⟩;exact hK _ _ (a04.refl _) rfl
 refine ya ?_;refine a01 ?_;intro w5 hx5 hS
 iterate 10 (rintro _ rfl)
 iterate 1 (intro _ hz; clear hz)
 iterate 2 (rintro _ rfl)
 dsimp only [a0y];go_simp
 go_wp2
 go_ret
 rw [HC.o];exact ⟨rfl, hx.trans hx5⟩
theorem orAr (x y : Pl.Ar) : orI (Mom.cmp x.1.1 y.1.1) (Mom.cmp x.1.2 y.1.2) = Pl.a8s x y := by
 unfold orI Pl.a8s
 by_cases h : Mom.cmp x.1.1 y.1.1 = 0 <;> simp [h]
theorem a7D (x y : Pl.Ar) (w : World) : Calls Tryz.prog 171 #[arV x, arV y] w fun e w' => e = .returned (.int .i64 (Pl.a8s x y)) ∧ a04 w w' := by
 have HC := hid (orAr x y);obtain ⟨⟨⟨x1, x2⟩, x3, x4⟩, x5, x6⟩ := x;obtain ⟨⟨⟨y1, y2⟩, y3, y4⟩, y5, y6⟩ := y;dsimp only at *
 go_enter Tryz.func171, Tryz.ntmps171
 go_wp2
 obtain ⟨w2, hw2, hx, c0, c1, c2, c3, d0, d1, d2, d3⟩ := box6 w 144 (.int .i64 x1) (.int .i64 x2) (.int .i64 x3) (.int .i64 x4) (.bool x5) (.int .i64 x6) (.int .i64 y1) (.int .i64 y2) (.int .i64 y3) (.int .i64 y4) (.bool y5) (.int .i64 y6);rw [<- hw2];clear hw2;generalize w.heap.size = n at *;refine a1i [] [] a04 a04 (fun _ => True) (by kernel_rfl) (by rfl) (by rfl) (by kernel_rfl) (by kernel_rfl) (by kernel_rfl) (fun _ _ _ x y => x.trans y) a04.refl (fun _ _ x => x) (a04.refl _).drew (fun _ _ x _ => x) trivial ?_
 refine ya ?_;refine yl2 c0 c1 ?_;refine ya ?_;refine yl2 d0 d1 ?_;refine a09 (fun v _ => v = .int .i64 (Mom.cmp (x1, x2) (y1, y2))) rfl rfl (a03 rfl) rfl a0g ?_ ?_
 . intro a w' hR h1 h2 K hK
   have e1 : _ = _ := h1;have e2 : _ = _ := h2;go_simp;refine (a5e (x1, x2) (y1, y2) w').mono ?_;rintro e w2 ⟨rfl, hg⟩;exact hK _ _ hg rfl
 refine ya ?_;refine yl2 c2 c3 ?_;refine ya ?_;refine yl2 d2 d3 ?_;refine a09 (fun v _ => v = .int .i64 (Mom.cmp (x3, x4) (y3, y4))) rfl rfl (a03 rfl) rfl a0g ?_ ?_
 . intro a w' hR h1 h2 K hK
   have e1 : _ = _ := h1;have e2 : _ = _ := h2;go_simp;refine (a5e (x3, x4) (y3, y4) w').mono ?_;rintro e w2 ⟨rfl, hg⟩;exact hK _ _ hg rfl
 refine a09 (fun v w2 => Rd w2 1 v 2 [.int .i64 (Mom.cmp (x1, x2) (y1, y2)), .int .i64 (Mom.cmp (x3, x4) (y3, y4))]) rfl rfl (a03 rfl) rfl (by first | exact (fun _ _ _ h k => Rd.ext h k) | exact (fun _ _ _ h k => Rd.ext h (a04.ext k)) | exact (fun _ _ _ h k => Rd.extV h k)) ?_ ?_
 . intro a w' hR h1 h2 K hK
   have e1 : _ = _ := h1;have e2 : _ = _ := h2;have q1 : a.tmps[9]?.getD undef = .int .i64 (Mom.cmp (x1, x2) (y1, y2)) := by simpa using e1
   have q2 : a.tmps[14]?.getD undef = .int .i64 (Mom.cmp (x3, x4) (y3, y4)) := by simpa using e2
   go_simp;exact hK _ _ ((a04.refl _).alloc _) (Rd.lit _ #[.int .i64 (Mom.cmp (x1, x2) (y1, y2)), .int .i64 (Mom.cmp (x3, x4) (y3, y4))] _ 2 rfl (by unfold maxLen; omega))
 refine a09 (fun v _ => v = .int .i64 (orI (Mom.cmp (x1, x2) (y1, y2)) (Mom.cmp (x3, x4) (y3, y4)))) rfl rfl (a03 rfl) rfl a0g ?_ ?_
 . intro a w' hR h1 K hK
   obtain ⟨x, ex, fx⟩ : ∃ x, a.tmps.getD 15 undef = x ∧ (fun v w2 => Rd w2 1 v 2 [.int .i64 (Mom.cmp (x1, x2) (y1, y2)), .int .i64 (Mom.cmp (x3, x4) (y3, y4))]) x w' := ⟨_, rfl, h1⟩
   go_simp;refine (b1y _ _ _ w' fx).mono ?_;rintro e w2 ⟨rfl, rfl⟩;exact hK _ _ (a04.refl _) rfl
 refine ya ?_;refine a01 ?_;intro w5 hx5 hS
 iterate 10 (rintro _ rfl)
 iterate 1 (intro _ hz; clear hz)
 iterate 2 (rintro _ rfl)
 dsimp only [a0y];go_simp
 go_wp2
 go_ret
 rw [HC.o];exact ⟨rfl, hx.trans hx5⟩
theorem a9r (blk off size : Nat) (w : World) : Go.Proofs.CmpLays Tryz.prog 171 #[] encA.enc 6 Pl.a8s blk off size w :=
 fun _ _ _ _ x y => a7D x y _
end Go.Proofs.YtdkejfjcchlnpaaGreat
namespace Go.Ox
open Go.ChangeShapes Go.WideShapes Go.ChangeAt Go.RowKit
section
variable {H : Type} {enc : TypeId × Value -> H} {P : Program} {t e : TypeId} {W : World}
theorem a6d {v : Value} {d : DataW H} {p : List MemPlace} {base : Nat} {sp : Nat -> Bool} {held : Bool} (h : DataW.Trod enc P W base sp held t v d p) : ∀ x ∈ p, x.block < W.heap.size := by
 obtain ⟨m, hm⟩ := h;exact DataW.trod_lt m _ _ _ hm
end
end Go.Ox
namespace Go.Ox
open Go.ChangeShapes Go.WideShapes Go.ChangeAt Go.RowKit Go.Deep
inductive Leaf
 | int (k : IntKind)
 | bool
def Leaf.ok : Leaf -> Value -> Prop
 | .int k, v => ∃ n, v = .int k n ∧ (Lit.int k n).wf = true
 | .bool, v => ∃ b, v = .bool b
def a2R : List Leaf -> List Value -> Prop
 | [], [] => True
 | k :: ks, c :: cs => k.ok c ∧ a2R ks cs
 | _, _ => False
theorem a7E : ∀ {ks : List Leaf} {cs : List Value}, a2R ks cs -> cs.length = ks.length
 | [], [], _ => rfl
 | [], _ :: _, h => h.elim
 | _ :: _, [], h => h.elim
 | _ :: ks, _ :: cs, h => by simp [a7E h.2]
theorem a4B : ∀ {ks ks' : List Leaf} {cs cs' : List Value}, a2R ks cs -> a2R ks' cs' -> a2R (ks ++ ks') (cs ++ cs')
 | [], _, [], _, _, h => h
 | [], _, _ :: _, _, h, _ => h.elim
 | _ :: _, _, [], _, h, _ => h.elim
 | _ :: _, _, _ :: _, _, h, k => ⟨h.1, a4B h.2 k⟩
theorem a2i {k : IntKind} {ks : List Leaf} : ∀ {cs : List Value}, a2R (.int k :: ks) cs -> ∃ n cs', cs = .int k n :: cs' ∧ (Lit.int k n).wf = true ∧ a2R ks cs'
 | [], h => h.elim
 | c :: cs, h => by
  obtain ⟨⟨n, rfl, hw⟩, h2⟩ := h;exact ⟨n, cs, rfl, hw, h2⟩
theorem b1A : ∀ {cs : List Value}, a2R [] cs -> cs = []
 | [], _ => rfl
 | _ :: _, h => h.elim
def b1B (P : Program) (fl : TypeId -> Option (List Leaf)) : List Field -> Nat -> Option (List Leaf)
 | [], _ => some []
 | f :: fs, off =>
  if f.offset = off then
   match fl f.type with
   | some ks => if P.cellsOf f.type = ks.length then
    match b1B P fl fs (off + ks.length) with
    | some rs => some (ks ++ rs)
    | none => none
    else none
   | none => none
  else none
def flat (P : Program) : Nat -> TypeId -> Option (List Leaf)
 | 0, _ => none
 | n + 1, t =>
  match P.underlying t with
  | some (.int k) => some [.int k]
  | some .bool => some [.bool]
  | some (.struct fs) => match b1B P (flat P n) fs.toList 0 with
   | some ks => if P.cellsOf t = ks.length then some ks else none
   | none => none
  | _ => none
section
variable {H : Type} {enc : TypeId × Value -> H} {P : Program} {W : World} {base : Nat} {sp : Nat -> Bool} {held : Bool}
theorem b1C {n : Nat} (ih : ∀ t ks fuel cs x, flat P n t = some ks -> DataW.trod enc P W base sp held fuel t cs = some x -> a2R ks cs) {m : Nat} {cs : List Value} :
 ∀ (fs : List Field) (off : Nat) (ks : List Leaf), b1B P (flat P n) fs off = some ks -> (∀ f ∈ fs, ∃ x, DataW.trod enc P W base sp held m f.type ((cs.drop f.offset).take (P.cellsOf f.type)) = some x) -> off + ks.length <= cs.length ->
  a2R ks ((cs.drop off).take ks.length)
 | [], off, ks, h, _, _ => by
  simp [b1B] at h; subst h;simp [a2R]
 | f :: fs, off, ks, h, hx, hl => by
  unfold b1B at h
  split at h
  . rename_i ho
    split at h
    . rename_i k1 h1
      split at h
      . rename_i hc
        split at h
        . rename_i rs h2
          injection h with h; subst h
          obtain ⟨x, hx1⟩ := hx f (List.mem_cons_self ..);have r1 := ih _ _ _ _ _ h1 hx1;rw [List.length_append] at hl;have r2 := b1C ih (m := m) (cs := cs) fs _ _ h2 (fun g hg => hx g (List.mem_cons_of_mem _ hg)) (by omega)
          rw [ho, hc] at r1;rw [List.length_append, List.take_add, List.drop_drop];exact a4B r1 r2
        . cases h
      . cases h
    . cases h
  . cases h
theorem a7F : ∀ (n : Nat) (t : TypeId) (ks : List Leaf) (fuel : Nat) (cs : List Value) (x : DataW H × List MemPlace), flat P n t = some ks -> DataW.trod enc P W base sp held fuel t cs = some x -> a2R ks cs
 | 0, _, _, _, _, _, h, _ => by unfold flat at h; cases h
 | n + 1, t, ks, fuel, cs, x, h, hx => by
  unfold flat at h
  split at h
  . rename_i k hu
    injection h with h; subst h
    obtain ⟨z, rfl, _, hw⟩ := DataW.trod_int hu hx;exact ⟨⟨z, rfl, hw⟩, trivial⟩
  . rename_i hu
    injection h with h; subst h
    obtain ⟨b, rfl, _⟩ := DataW.trod_bool hu hx;exact ⟨⟨b, rfl⟩, trivial⟩
  . rename_i fs hu
    split at h
    . rename_i k1 h1
      split at h
      . rename_i hc
        injection h with h; subst h
        obtain ⟨xs, m, _, _, hl, hlen, hf⟩ := DataW.trod_struct hu hx
        have := b1C (cs := cs) (m := m) (a7F n) fs.toList 0 k1 h1 (fun f hf' => by
         obtain ⟨i, hi, hif⟩ := List.getElem_of_mem hf';have h3 := hf i f (by simp at hi; rw [Array.getElem?_eq_getElem (by simpa using hi)]; simpa using hif)
         have h4 : i < xs.length := by simp at hi; omega
         rw [List.getElem?_eq_getElem h4] at h3
         exact ⟨_, h3⟩) (by omega)
        rw [List.drop_zero, <- hc, <- hl, List.take_length] at this;exact this
      . cases h
    . cases h
  . cases h
theorem a3b {α : Type} {L : Nat} (hL : 0 < L) : ∀ (rows : List (List α)), (∀ r ∈ rows, r.length = L) -> ∀ j, rows.flatten[j]? = (rows[j / L]?).bind fun r => r[j % L]?
 | [], _, j => by simp
 | r :: rows, h, j => by
  have hr := h r (List.mem_cons_self ..);rw [List.flatten_cons]
  by_cases hj : j < L
  . rw [List.getElem?_append_left (by omega), Nat.div_eq_of_lt hj, Nat.mod_eq_of_lt hj]
    simp
  . rw [List.getElem?_append_right (by omega), hr, a3b hL rows (fun x hx => h x (List.mem_cons_of_mem _ hx))]
    have e1 : j / L = (j - L) / L + 1 := by
     rw [<- Nat.add_div_right _ hL]; congr 1; omega
    have e2 : j % L = (j - L) % L := by
     rw [<- Nat.add_mod_right (j - L) L]; congr 1; omega
    rw [e1, e2, List.getElem?_cons_succ]
theorem a3p {α : Type} {L : Nat} : ∀ (rows : List (List α)), (∀ r ∈ rows, r.length = L) -> rows.flatten.length = rows.length * L
 | [], _ => by simp
 | r :: rows, h => by
  rw [List.flatten_cons, List.length_append, a3p rows (fun x hx => h x (List.mem_cons_of_mem _ hx)), h r (List.mem_cons_self ..), List.length_cons, Nat.add_mul]
  omega
theorem a8C {n : Nat} {t e : TypeId} {ks : List Leaf} (ht : P.underlying t = some (.slice e)) (hf : flat P n e = some ks) (hc : P.cellsOf e = ks.length) (hk0 : 0 < ks.length) {u : Value} {fuel : Nat} {y : DataW H × List MemPlace}
 (hx : DataW.trod enc P W base sp held fuel t [u] = some y) :
 ∃ rows : List (List Value), Rd W ks.length u rows.length rows.flatten ∧ ∀ x ∈ rows, a2R ks x := by
 rcases open_slice ht hx with ⟨hcs, _⟩ | ⟨x, len, cap, m, k, D, Pl, hcs, _, hl, hm, hmm, _, hcell⟩
 . injection hcs with hcs
   subst hcs;exact ⟨[], Rd.nil _ _, by simp⟩
 injection hcs with hcs
 subst hcs;have hlm : len <= m := by rw [hmm]; split <;> omega
 have hspot : 0 < len -> x.spot = none := by
  intro h0;obtain ⟨cs', h1, _⟩ := hcell 0 (by omega)
  rw [hc] at h1;obtain ⟨_, hlen, hce⟩ := World.cells?_some h1;have h3 := hce 0 hk0;rw [List.getElem?_eq_getElem (by omega)] at h3
  have := World.cell?_spot h3;simpa [Addr.add] using this
 have each : ∀ i, i < len -> ∃ cs' : List Value, a2R ks cs' ∧ x.spot = none ∧ ∀ j u, cs'[j]? = some u -> W.cell? ⟨x.block, x.off + (i * ks.length + j), none⟩ = some u := by
  intro i hi;obtain ⟨cs', h1, h2⟩ := hcell i (by omega)
  rw [hc] at h1;obtain ⟨_, hlen, hce⟩ := World.cells?_some h1;have hrow := a7F _ _ _ _ _ _ hf h2;have hs0 := hspot (by omega)
  refine ⟨cs', hrow, hs0, fun j u hu => ?_⟩
  have hj : j < cs'.length := by
   rcases Nat.lt_or_ge j cs'.length with h | h
   . exact h
   rw [List.getElem?_eq_none h] at hu; cases hu
  have h3 := hce j (by omega)
  rw [hu] at h3;obtain ⟨b, o, s⟩ := x;simp only at hs0; subst hs0;rw [<- h3];unfold Addr.add
  repeat' split
  all_goals first | rfl | (simp_all [Nat.add_assoc])
 obtain ⟨q, hq⟩ := choose_lt each
 have hrl : ∀ r ∈ (List.range len).map q, r.length = ks.length := by
  intro r hr;obtain ⟨i, hi, rfl⟩ := List.mem_map.1 hr;exact a7E (hq i (List.mem_range.1 hi)).1
 refine ⟨(List.range len).map q, ⟨some x, cap, by simp, ?_, by simpa using hl, hm, (fun h => by cases h), fun ad ha j u' hu => ?_⟩, ?_⟩
 . rw [a3p _ hrl]
 . injection ha with ha; subst ha
   rw [a3b hk0 _ hrl, Option.bind_eq_some_iff] at hu;obtain ⟨r, h1, h2⟩ := hu;rw [List.getElem?_map, Option.map_eq_some_iff] at h1;obtain ⟨i, h3, rfl⟩ := h1
   have hi : j / ks.length < len := by
    rcases Nat.lt_or_ge (j / ks.length) len with h | h
    . exact h
    rw [List.getElem?_eq_none (by simpa using h)] at h3; cases h3
   rw [List.getElem?_range hi] at h3;injection h3 with h3; subst h3
   obtain ⟨_, hs, hcell'⟩ := hq _ hi;refine ⟨hs, ?_⟩;have := hcell' _ _ h2;have e : j / ks.length * ks.length + j % ks.length = j := by rw [Nat.mul_comm]; exact Nat.div_add_mod j _
   rwa [e] at this
 intro r hr;obtain ⟨i, hi, rfl⟩ := List.mem_map.1 hr;exact (hq i (List.mem_range.1 hi)).1
theorem a8D {n : Nat} {t e : TypeId} {ks : List Leaf} (ht : P.underlying t = some (.slice e)) (hf : flat P n e = some ks) (hc : P.cellsOf e = ks.length) (hk0 : 0 < ks.length) {v : Value} {d : DataW H} {p : List MemPlace} {r : Reach} {b0 : Nat}
 (hv : Value.okWide P W r b0 t v) (h : DataW.Trod enc P W base sp held t v d p) :
 ∃ rows : List (List Value), Rd W ks.length v rows.length rows.flatten ∧ ∀ x ∈ rows, a2R ks x := by
 obtain ⟨a, len, cap, rfl⟩ := okWide_slice ht hv;obtain ⟨fuel, hx⟩ := h;exact a8C ht hf hc hk0 (u := .slice a len cap) (by simpa [Value.cells] using hx)
end
end Go.Ox
