/-
  PlArc, MomFn, packed: what the claim needs of them.
-/
import Derived.Test.YtdkejfjcchlnpaaGreatFn01
import Derived.Test.YtdkejfjcchlnpaaGreatFn06
import Derived.Test.YtdkejfjcchlnpaaGreatFn08
import Derived.Deep.DeepCutAuto
set_option maxHeartbeats 40000000
open Go.Lib (hid)
set_option linter.unusedSimpArgs false
set_option linter.unusedVariables false
set_option maxRecDepth 100000
namespace Go.Ox.Pl
abbrev Ar := (Mom.M × Mom.M) × (Bool × Int)
def a6M (x y : Ar) : Int := if Mom.cmp x.1.1 y.1.1 ≠ 0 then Mom.cmp x.1.1 y.1.1 else Mom.cmp x.1.2 y.1.2
end Go.Ox.Pl
namespace Go.Ox
instance encA : Enc Pl.Ar where
 k := 6
 enc x := [.int .i64 x.1.1.1, .int .i64 x.1.1.2, .int .i64 x.1.2.1, .int .i64 x.1.2.2, .bool x.2.1, .int .i64 x.2.2]
 len _ := rfl
 pos := by omega
 one x u hu := by simp at hu; rcases hu with rfl | rfl | rfl | rfl | rfl | rfl <;> rfl
abbrev arV (x : Pl.Ar) : Value := .agg #[.int .i64 x.1.1.1, .int .i64 x.1.1.2, .int .i64 x.1.2.1, .int .i64 x.1.2.2, .bool x.2.1, .int .i64 x.2.2]
end Go.Ox
namespace Go.Proofs.YtdkejfjcchlnpaaGreat
open Go.RowKit Go.Ox Go.Shelf Go.Sort
theorem rowA {w0 : World} {blk off : Nat} {d0 : Array Pl.Ar} (hH : HoldsK encA.enc 6 w0 blk off d0) (hblk : blk < w0.heap.size) : RowK encA.enc 6 w0 blk off d0 := ⟨encA.len, encA.one, hH, hblk⟩
theorem a3z : Tryz.prog.follows Departure.mixedOrders = true := by kernel_rfl
section
variable {w0 : World} {blk off : Nat} {d0 : Array Pl.Ar}
theorem a3e (R : RowK encA.enc 6 w0 blk off d0) {D : Array Pl.Ar} {W : World} (S : SWK encA.enc 6 w0 blk off D W) (hs : D.size = d0.size) (x y : Nat) (hx : x < D.size) (hy : y < D.size) :
 ∃ (kk : Nat) (cA cB : List Value), kk = 6 ∧ cA.length = kk ∧ cB.length = kk ∧
  Sem.run Tryz.prog (loadCellsFrom ⟨blk, off + x * 6, none⟩ 0 kk #[]) W.drew = .ok cA.toArray W.drew ∧
  Sem.run Tryz.prog (loadCellsFrom ⟨blk, off + y * 6, none⟩ 0 kk #[]) W.drew = .ok cB.toArray W.drew ∧
  Sem.run Tryz.prog (storeCells ⟨blk, off + x * 6, none⟩ cB 0) W.drew = .ok () (W.drew.setCells blk (off + x * 6) cB) ∧
  Sem.run Tryz.prog (storeCells ⟨blk, off + y * 6, none⟩ cA 0) (W.drew.setCells blk (off + x * 6) cB) = .ok () ((W.drew.setCells blk (off + x * 6) cB).setCells blk (off + y * 6) cA) ∧
  SWK encA.enc 6 w0 blk off (swp D x y) ((W.drew.setCells blk (off + x * 6) cB).setCells blk (off + y * 6) cA) :=
 ⟨6, encA.enc D[x]!, encA.enc D[y]!, rfl, rfl, rfl, S.ld1 R hs _ x hx, S.ld1 R hs _ y hy, S.st1 R hs _ x hx _, S.st2 R hs _ x y hx hy _ _, S.swapped R x y hx hy⟩
set_option maxRecDepth 1000000 in
theorem a1T (R : RowK encA.enc 6 w0 blk off d0) (f : Value) (cap a b n : Nat) (D : Array Pl.Ar) (W : World) (S : SWK encA.enc 6 w0 blk off D W) (hs : D.size = d0.size) (h1 : a + n ≤ b) (h2 : b + n ≤ D.size) (hsz : D.size < 1000000000) :
 Calls Tryz.prog 196 #[.slice (some ⟨blk, off, none⟩) D.size cap, .int .i64 a, .int .i64 b, .int .i64 n, f] W fun e w' =>
  e = .returned (.tuple #[]) ∧ SWK encA.enc 6 w0 blk off (Stab.a2c a b n D) w' := by
 have HS := hid S;have HRR := hid R;have HB := hid (show a + n ≤ b ∧ b + n ≤ D.size ∧ D.size < 1000000000 ∧ D.size = d0.size from ⟨h1, h2, hsz, hs⟩);clear S R h1 h2 hsz hs
 go_enter Tryz.func196, Tryz.ntmps196
 go_wp2
 go_loopg [10] n (fun g vi wr => ∃ i : Nat, vi = .int .i64 (i : Int) ∧ i ≤ n ∧ n - i ≤ g ∧ SWK encA.enc 6 w0 blk off (Stab.a2c a b i D) wr)
 case atStart => exact ⟨0, rfl, Nat.zero_le _, by omega, HS.o⟩
 case round =>
  obtain ⟨i, rfl, hi, hg, hw⟩ := hrel;have HW := hid hw;have HI := hid hi;have HG := hid hg;clear hw hi hg
  by_cases hin : i < n
  · have g1 : (i : Int) < (n : Int) := by omega
    have HIN := hid hin;obtain ⟨x, hx⟩ : ∃ x, x = a + i := ⟨_, rfl⟩;obtain ⟨y, hy⟩ : ∃ y, y = b + i := ⟨_, rfl⟩;have hb := HB.o;have q1 : ((a : Int) + (i : Int)) = (x : Int) := by omega
    have q2 : ((b : Int) + (i : Int)) = (y : Int) := by omega
    have q3 : IntKind.i64.wrap (x : Int) = (x : Int) := IntWalk.i64_in _ (by omega)
    have q4 : IntKind.i64.wrap (y : Int) = (y : Int) := IntWalk.i64_in _ (by omega)
    have z1 : (x : Int) < (D.size : Int) := by omega
    have z2 : (y : Int) < (D.size : Int) := by omega
    have hi9 : (i : Int) + 1 ≤ 1000000000 := by omega
    obtain ⟨kk, cA, cB, hkk, lA, lB, l1, l2, s1, s2, sw⟩ := a3e HRR.o HW.o (by rw [Stab.a10]; exact hb.2.2.2) x y (by rw [Stab.a10]; omega) (by rw [Stab.a10]; omega)
    have HSW := hid (show SWK encA.enc 6 w0 blk off (Stab.a2c a b (i + 1) D) _ from by rw [Stab.a2c, ← hx, ← hy]; exact sw)
    have mixed := a3z;clear hx hy hb sw hin
    go_upto_region 3 with fail
    obtain ⟨T, hT⟩ : ∃ T, T = 144 := ⟨_, rfl⟩;rw [← hT];have aT : ∀ w, (isAgg T).run Tryz.prog w = .ok true w := by rw [hT]; exact Tryz.isAgg144
    have zT : ∀ w, (Go.sizeOf T).run Tryz.prog w = .ok kk w := by rw [hT, hkk]; exact Tryz.sizeOf144
    clear hT hkk
    go_big_region_o
    all_goals go_wp2
    go_roundg (n - (i + 1))
    case measure => have h1 := HG.o; have h2 := HIN.o; omega
    case rel => exact ⟨i + 1, by first | rfl | go_num, HIN.o, Nat.le_refl _, HSW.o⟩
  · have g1 : ¬ (i : Int) < (n : Int) := by omega
    obtain rfl : i = n := by have := HI.o; omega
    go_wp2
    go_end0
    exact ⟨rfl, HW.o⟩
set_option maxRecDepth 1000000 in
theorem a8p (R : RowK encA.enc 6 w0 blk off d0) (f : Value) (cap a m b : Nat) (D : Array Pl.Ar) (W : World) (S : SWK encA.enc 6 w0 blk off D W) (hs : D.size = d0.size) (h1 : a < m) (h2 : m < b) (h3 : b ≤ D.size) (hsz : D.size < 1000000000) :
 Calls Tryz.prog 195 #[.slice (some ⟨blk, off, none⟩) D.size cap, .int .i64 a, .int .i64 m, .int .i64 b, f] W fun e w' =>
  e = .returned (.tuple #[]) ∧ ∃ D', SWK encA.enc 6 w0 blk off D' w' ∧ PermIn a b D D' ∧ ∀ k, D'[k]! = Stab.a0t a m b D k := by
 have HS := hid S;have HRR := hid R;have HB := hid (show a < m ∧ m < b ∧ b ≤ D.size ∧ D.size < 1000000000 ∧ D.size = d0.size from ⟨h1, h2, h3, hsz, hs⟩);obtain ⟨i0, hi0⟩ : ∃ i, i = m - a := ⟨_, rfl⟩;obtain ⟨j0, hj0⟩ : ∃ j, j = b - m := ⟨_, rfl⟩;have q1 : ((m : Int) - (a : Int)) = (i0 : Int) := by omega
 have q2 : ((b : Int) - (m : Int)) = (j0 : Int) := by omega
 have q3 : IntKind.i64.wrap (i0 : Int) = (i0 : Int) := IntWalk.i64_in _ (by omega)
 have q4 : IntKind.i64.wrap (j0 : Int) = (j0 : Int) := IntWalk.i64_in _ (by omega)
 have H0 := hid (show i0 = m - a ∧ j0 = b - m from ⟨hi0, hj0⟩);have HN := hid (show ∀ D', PermIn a b D D' → D'.size = D.size from fun D' h => h.1)
 clear S R h1 h2 h3 hsz hs hi0 hj0
 go_enter Tryz.func195, Tryz.ntmps195
 go_wp2
 clear q1 q2 q3 q4
 go_loopg [10, 11] (i0 + j0) (fun g vi vj wr => ∃ (i j : Nat) (D' : Array Pl.Ar), vi = .int .i64 (i : Int) ∧ vj = .int .i64 (j : Int) ∧ 0 < i ∧ 0 < j ∧ i ≤ m - a ∧ j ≤ b - m ∧ i + j ≤ g ∧ SWK encA.enc 6 w0 blk off D' wr ∧ PermIn a b D D' ∧ ∀ k, Stab.a0t (m - i) m (m + j) D' k = Stab.a0t a m b D k)
 case atStart => exact ⟨i0, j0, D, rfl, rfl, by have h1 := H0.o; have h2 := HB.o; omega, by have h1 := H0.o; have h2 := HB.o; omega, by have h1 := H0.o; omega, by have h1 := H0.o; omega, Nat.le_refl _, HS.o, permIn_refl D a b, fun k => by have h1 := H0.o; have h2 := HB.o; rw [show m - i0 = a by omega, show m + j0 = b by omega]⟩
 case round =>
  obtain ⟨i, j, D', rfl, rfl, hi, hj, hia, hjb, hg, hw, hp, hr⟩ := hrel;have hb := HB.o;have hD' := HN.o D' hp;have HIJ := hid (show 0 < i ∧ 0 < j ∧ i ≤ m - a ∧ j ≤ b - m ∧ i + j ≤ gk from ⟨hi, hj, hia, hjb, hg⟩);have HP := hid hp;have HR := hid hr;obtain ⟨x, hx⟩ : ∃ x, x = m - i := ⟨_, rfl⟩;have q1 : ((m : Int) - (i : Int)) = (x : Int) := by omega
  have q3 : IntKind.i64.wrap (x : Int) = (x : Int) := IntWalk.i64_in _ (by omega)
  have HXX := hid hx
  by_cases hij : i = j
  · subst hij
    have HC := hid (a1T HRR.o f cap x m i D' wr hw (by omega) (by omega) (by omega) (by omega))
    rw [hD'] at HC;have HF := hid (show ∀ k, (Stab.a2c x m i D')[k]! = Stab.a0t a m b D k from fun k => by rw [hx, Stab.a8o (by omega) (by omega), hr])
    have HPP := hid (permIn_trans _ _ _ a b hp (Stab.a2n (a := x) (b := m) i D' (by omega) (by omega) (by omega) (by omega) (by omega)))
    clear hb hD' hp hr hw hx hi hj hia hjb hg
    go_wp2_with fail
    refine HC.o.mono ?_;rintro e w1 ⟨rfl, hs1⟩
    go_wp2
    go_end0
    exact ⟨rfl, _, hs1, HPP.o, HF.o⟩
  · have g1 : ((i : Int) == (j : Int)) = false := beq_eq_false_iff_ne.2 (by omega)
    have g2 : ¬ (i : Int) = (j : Int) := by omega
    by_cases hlt : j < i
    · have g3 : (j : Int) < (i : Int) := by omega
      have HC := hid (a1T HRR.o f cap x m j D' wr hw (by omega) (by omega) (by omega) (by omega))
      rw [hD'] at HC;obtain ⟨y, hy⟩ : ∃ y, y = i - j := ⟨_, rfl⟩;have q2 : ((i : Int) - (j : Int)) = (y : Int) := by omega
      have q4 : IntKind.i64.wrap (y : Int) = (y : Int) := IntWalk.i64_in _ (by omega)
      have HF := hid (show ∀ k, Stab.a0t (m - y) m (m + j) (Stab.a2c x m j D') k = Stab.a0t a m b D k from fun k => by rw [hx, hy, Stab.a8n (by omega) hlt (by omega), hr])
      have HPP := hid (permIn_trans _ _ _ a b hp (Stab.a2n (a := x) (b := m) j D' (by omega) (by omega) (by omega) (by omega) (by omega)))
      have HY := hid (show 0 < y ∧ y ≤ m - a ∧ y + j + 1 ≤ i + j from ⟨by omega, by omega, by omega⟩)
      clear hb hD' hp hr hw hx hi hj hia hjb hg hy hlt hij
      go_wp2_with fail
      refine HC.o.mono ?_;rintro e w1 ⟨rfl, hs1⟩
      go_wp2
      go_roundg (y + j)
      case measure => have h1 := HY.o; have h2 := HIJ.o; omega
      case rel => exact ⟨y, j, _, rfl, rfl, HY.o.1, HIJ.o.2.1, HY.o.2.1, HIJ.o.2.2.2.1, Nat.le_refl _, hs1, HPP.o, HF.o⟩
    · have g3 : ¬ (j : Int) < (i : Int) := by omega
      obtain ⟨z, hz⟩ : ∃ z, z = m + j := ⟨_, rfl⟩;obtain ⟨t, ht⟩ : ∃ t, t = m + j - i := ⟨_, rfl⟩;have q5 : ((m : Int) + (j : Int)) = (z : Int) := by omega
      have q6 : IntKind.i64.wrap (z : Int) = (z : Int) := IntWalk.i64_in _ (by omega)
      have q7 : ((z : Int) - (i : Int)) = (t : Int) := by omega
      have q8 : IntKind.i64.wrap (t : Int) = (t : Int) := IntWalk.i64_in _ (by omega)
      have HC := hid (a1T HRR.o f cap x t i D' wr hw (by omega) (by omega) (by omega) (by omega))
      rw [hD'] at HC;obtain ⟨y, hy⟩ : ∃ y, y = j - i := ⟨_, rfl⟩;have q2 : ((j : Int) - (i : Int)) = (y : Int) := by omega
      have q4 : IntKind.i64.wrap (y : Int) = (y : Int) := IntWalk.i64_in _ (by omega)
      have HF := hid (show ∀ k, Stab.a0t (m - i) m (m + y) (Stab.a2c x t i D') k = Stab.a0t a m b D k from fun k => by rw [hx, hy, ht, Stab.a6T (by omega) (by omega) (by omega), hr])
      have HPP := hid (permIn_trans _ _ _ a b hp (Stab.a2n (a := x) (b := t) i D' (by omega) (by omega) (by omega) (by omega) (by omega)))
      have HY := hid (show 0 < y ∧ y ≤ b - m ∧ i + y + 1 ≤ i + j from ⟨by omega, by omega, by omega⟩)
      clear hb hD' hp hr hw hx hi hj hia hjb hg hy hlt hij hz ht
      go_wp2_with fail
      refine HC.o.mono ?_;rintro e w1 ⟨rfl, hs1⟩
      go_wp2
      go_roundg (i + y)
      case measure => have h1 := HY.o; have h2 := HIJ.o; omega
      case rel => exact ⟨i, y, _, rfl, rfl, HIJ.o.1, HY.o.1, HIJ.o.2.2.1, HY.o.2.1, Nat.le_refl _, hs1, HPP.o, HF.o⟩
end
end Go.Proofs.YtdkejfjcchlnpaaGreat
namespace Go.Proofs.YtdkejfjcchlnpaaGreat.Mo
open Go.RowKit Go.Ox Go.Shelf
theorem b1u : Elem Tryz.prog 45 29 (.agg #[.int .i64 0, .int .i64 0]) 2 16 := Elem.mk' Tryz.underlying45 (by kernel_rfl) rfl (by omega)
theorem b3k (w : World) (A : Option Addr) (n c n' c' : Nat) : (binOp .eql 45 (.slice A n c) (.slice none n' c')).run Tryz.prog w = .ok (.bool A.isNone) w :=
 Lib.run_eql_slice_nil (P := Tryz.prog) w 45 29 A n c n' c' Tryz.underlying45
abbrev b1v (x : Mom.M) : List Value := [.int .i64 x.1, .int .i64 x.2]
theorem a8q (A : Option Addr) (c : Nat) (f : Value) (w : World) :
 Calls Tryz.prog 101 #[.slice A 0 c, f] w fun e w' => e = .returned (.int .i64 (-1)) ∧ w = w' := by
 go_enter Tryz.func101, Tryz.ntmps101
 go_wp2
 go_loop [8] (fun i => i = .int .i64 0) (fun _ => 0)
 case atStart => rfl
 case round =>
 subst hrel
 go_wp2
 go_ret
 exact ⟨rfl, rfl⟩
theorem a5C (A : Option Addr) (c : Nat) (f : Value) (w : World) :
 Calls Tryz.prog 69 #[.slice A 0 c, f] w fun e w' => e = .returned (.bool false) ∧ w = w' := by
 go_enter Tryz.func69, Tryz.ntmps69
 go_wp2_with (go_at_call 101; refine (a8q _ _ _ _).mono ?_; rintro e w' ⟨rfl, rfl⟩)
 go_ret
 exact ⟨rfl, rfl⟩
theorem a2J (p : Mom.M → Bool) (g : Nat) (lb : Array Value) (eg : ∀ args w, (callFunc g args).run Tryz.prog w = .ok (.enter g args) w) (v : Value) (l : List Mom.M) (w : World) (hv : RP w v l)
 (hp : PredBelow Tryz.prog g lb (fun x => .agg (b1v x).toArray) p w) (hl : l.length ≤ 1000000000) :
 Calls Tryz.prog 69 #[v, .func (.func g) #[] lb] w fun e w' => e = .returned (.bool (l.any p)) ∧ Ext w w' := by
 obtain ⟨A, c, rfl⟩ := hv.form
 by_cases h0 : l.length = 0
 · obtain rfl := List.eq_nil_of_length_eq_zero h0
   exact (a5C A c _ w).mono fun e w' ⟨h1, h2⟩ => ⟨h1, by subst h2; exact Ext.refl _⟩
 obtain ⟨b, o, rfl, hc, _⟩ := hv.at_ (k := 0) (by omega)
 have hcon := AnyQ.slices_ContainsFunc Tryz.containsMo 2 Tryz.isAgg29 Tryz.sizeOf29 b1v (fun _ => rfl) p g lb eg b o l.length c l w hp (Nat.le_refl _) (by omega) (World.block_lt_of_cell? w _ hc) (fun j hj i u hi => by
  obtain ⟨b', o', he, h1, h2⟩ := hv.at_ hj;injection he with he
  injection he with e1 e2
  subst e1 e2;have hg : l[j]! = l[j] := getElem!_pos l j hj;rw [hg] at hi
  match i, hi with
  | 0, hi => simp at hi; rw [← hi]; exact h1
  | 1, hi => simp at hi; rw [← hi]; exact h2
  | i + 2, hi => simp at hi)
 rw [List.take_length] at hcon;exact hcon
theorem a6g (w : World) : PredBelow Tryz.prog 79 #[] (fun x => .agg (b1v x).toArray) (fun x => !Mom.ok x) w := fun W x hb => by
 show Calls Tryz.prog 79 #[mV x] W _;have HC := hid (fun w => a0p x w)
 obtain ⟨a, b⟩ := x;dsimp only at *
 cases hq : Mom.ok (a, b) with
 | true =>
  rw [hq, if_pos rfl] at HC
  go_enter Tryz.func79, Tryz.ntmps79
  go_wp2_with (go_at_call 40; refine (HC.o _).mono ?_; rintro e w1 ⟨rfl, he1⟩)
  go_ret
  exact ⟨rfl, hb.trans (((Ext.refl _).alloc _ |>.trans he1).mono hb.size)⟩
 | false =>
  rw [hq, if_neg (by simp)] at HC
  go_enter Tryz.func79, Tryz.ntmps79
  go_wp2_with (go_at_call 40; refine (HC.o _).mono ?_; rintro e w1 ⟨rfl, he1⟩)
  go_ret
  exact ⟨rfl, hb.trans (((Ext.refl _).alloc _ |>.trans he1).mono hb.size)⟩
theorem a5D (m : Mom.M) (B : Nat) (w : World) (hB : B < w.heap.size) (h1 : w.cell? ⟨B, 0, none⟩ = some (.int .i64 m.1)) (h2 : w.cell? ⟨B, 1, none⟩ = some (.int .i64 m.2)) :
 PredBelow Tryz.prog 70 #[.pointer (some ⟨B, 0, none⟩)] (fun x => .agg (b1v x).toArray) (fun x => Mom.ahead x m) w := fun W x hb => by
 show Calls Tryz.prog 70 #[mV x, .pointer (some ⟨B, 0, none⟩)] W _;have HC := hid (fun w => a43 x m w)
 have k1 := (hb.cell (p := ⟨B, 0, none⟩) hB).trans h1;have k2 := (hb.cell (p := ⟨B, 1, none⟩) hB).trans h2;have hne : W.heap.size ≠ B := by have := hb.size; omega
 have e1 := ((Ext.refl W).alloc (.cells #[.int .i64 x.1, .int .i64 x.2] 29)).cell k1;have e2 := ((Ext.refl W).alloc (.cells #[.int .i64 x.1, .int .i64 x.2] 29)).cell k2;obtain ⟨a, b⟩ := x;dsimp only at *;clear h1 h2 k1 k2
 go_enter Tryz.func70, Tryz.ntmps70
 go_wp2_with (go_at_call 71; refine (HC.o _).mono ?_; rintro e w1 ⟨rfl, he1⟩)
 go_ret
 exact ⟨rfl, hb.trans (((Ext.refl _).alloc _ |>.trans he1).mono hb.size)⟩
theorem a3f (v : Value) (l : List Mom.M) (m : Mom.M) (w : World) (hv : RP w v l) (hl : l.length ≤ 1000000000) :
 Calls Tryz.prog 41 #[v, mV m] w fun e w' => e = .returned (.bool (Mom.a1G l m)) ∧ Ext w w' := by
 have eg : ∀ args w, (callFunc 70 args).run Tryz.prog w = .ok (.enter 70 args) w := enters_of Tryz.func70 (by kernel_rfl) rfl
 have hx := (Ext.refl w).alloc (.cells #[.int .i64 m.1, .int .i64 m.2] 29);have hblk := Blk.new w 29 #[.int .i64 m.1, .int .i64 m.2];have HC := hid (a2J (fun x => Mom.ahead x m) 70 #[.pointer (some ⟨w.heap.size, 0, none⟩)] eg v l _ (hv.ext hx) (a5D m w.heap.size _ (by simp) (hblk.cell 0) (hblk.cell 1)) hl)
 have HX := hid hx;have hd : Mom.a1G l m = l.any fun x => Mom.ahead x m := rfl
 rw [hd];generalize (l.any fun x => Mom.ahead x m) = q at *
 clear hx hblk eg hv hd;obtain ⟨a, b⟩ := m;dsimp only at *
 go_enter Tryz.func41, Tryz.ntmps41
 go_wp2_with (go_at_call 69; refine HC.o.mono ?_; rintro e w1 ⟨rfl, he1⟩)
 go_ret
 exact ⟨rfl, HX.o.trans he1⟩
theorem a8r (v : Value) (l : List Mom.M) (w : World) (hb : RP w v l) (hl : l.length ≤ 1000000000) :
 Calls Tryz.prog 80 #[v] w fun e w' => ∃ v', e = .returned v' ∧ OP 29 w.heap.size w' v' l ∧ Ext w w' := by
 have HB := hid hb;obtain ⟨A, c, rfl⟩ := hb.form;have hnc := hb.nc;have he := b3k;have HE := he
 cases A with
 | none =>
  obtain ⟨A', c', he', hrd⟩ := hb;injection he' with e1 e2 e3
  subst e1 e3;have h0 := hrd.nil rfl;have hn : l.length = 0 := by omega
  obtain rfl := List.eq_nil_of_length_eq_zero hn;subst h0;clear hrd hn hnc
  go_enter Tryz.func80, Tryz.ntmps80
  go_wp2
  go_ret
  exact ⟨_, rfl, OP.a2F _ _ _, Ext.refl _⟩
 | some ad =>
 clear hb hnc
 have hown : (w.alloc (.cells #[] 29)).ownsRow w.heap.size 29 2 (.slice (some ⟨w.heap.size, 0, none⟩) 0 0) 0 [] :=
  World.ownsRow_lit w #[] 0 (Nat.le_refl _) (by unfold maxLen; omega) rfl
 have HO := hid hown;clear hown
 go_enter Tryz.func80, Tryz.ntmps80
 go_wp2_with (at_builtin; refine a0J rfl b1u _ _ _ rfl w.heap.size _ 0 [] rfl HO.o _ l.length (pV l) rfl (HB.o.ext ((Ext.refl _).alloc _)) (b2G l) (by omega) (by unfold maxLen; omega) (by simp) ?_; intro v' w' ha)
 go_ret
 exact ⟨_, rfl, OP.of0 ha.own, ha.ext ((Ext.refl _).alloc _) rfl HO.o⟩
end Go.Proofs.YtdkejfjcchlnpaaGreat.Mo
