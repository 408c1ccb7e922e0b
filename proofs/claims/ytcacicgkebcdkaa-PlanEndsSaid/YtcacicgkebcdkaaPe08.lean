/-
  PlArc, packed: what the claim needs of them.
-/
import Derived.Test.YtcacicgkebcdkaaPe01
import Derived.Test.YtcacicgkebcdkaaPe06
import Derived.Test.YtcacicgkebcdkaaPe07
import Derived.Deep.DeepCutAuto
import Derived.Shelf.SlSortCmp.KitK
set_option linter.unusedSimpArgs false
set_option linter.unusedVariables false
namespace Go.Ox.Pl
abbrev Ar := (Mom.M × Mom.M) × (Bool × Int)
def cmpA (x y : Ar) : Int := if Mom.cmp x.1.1 y.1.1 ≠ 0 then Mom.cmp x.1.1 y.1.1 else Mom.cmp x.1.2 y.1.2
end Go.Ox.Pl
namespace Go.Ox
instance encA : Enc Pl.Ar where
  k := 6
  enc x := [.int .i64 x.1.1.1, .int .i64 x.1.1.2, .int .i64 x.1.2.1, .int .i64 x.1.2.2, .bool x.2.1, .int .i64 x.2.2]
  len _ := rfl
  pos := by omega
  one x u hu := by simp at hu; rcases hu with rfl | rfl | rfl | rfl | rfl | rfl <;> rfl
abbrev arV (x : Pl.Ar) : Value := .agg #[.int .i64 x.1.1.1, .int .i64 x.1.1.2, .int .i64 x.1.2.1, .int .i64 x.1.2.2, .bool x.2.1, .int .i64 x.2.2]
end Go.Ox
namespace Go.Proofs.Ytcacicgkebcdkaa
open Go.RowKit Go.Ox Go.Shelf Go.Sort
theorem rowA {w0 : World} {blk off : Nat} {d0 : Array Pl.Ar} (hH : HoldsK encA.enc 6 w0 blk off d0) (hblk : blk < w0.heap.size) : RowK encA.enc 6 w0 blk off d0 := ⟨encA.len, encA.one, hH, hblk⟩
theorem mixedA : Try.prog.follows Departure.mixedOrders = true := by kernel_rfl
section
variable {w0 : World} {blk off : Nat} {d0 : Array Pl.Ar}
theorem swap_facts (R : RowK encA.enc 6 w0 blk off d0) {D : Array Pl.Ar} {W : World} (S : SWK encA.enc 6 w0 blk off D W) (hs : D.size = d0.size) (x y : Nat) (hx : x < D.size) (hy : y < D.size) :
    ∃ (kk : Nat) (cA cB : List Value), kk = 6 ∧ cA.length = kk ∧ cB.length = kk ∧
      Sem.run Try.prog (loadCellsFrom ⟨blk, off + x * 6, none⟩ 0 kk #[]) W.drew = .ok cA.toArray W.drew ∧
      Sem.run Try.prog (loadCellsFrom ⟨blk, off + y * 6, none⟩ 0 kk #[]) W.drew = .ok cB.toArray W.drew ∧
      Sem.run Try.prog (storeCells ⟨blk, off + x * 6, none⟩ cB 0) W.drew = .ok () (W.drew.setCells blk (off + x * 6) cB) ∧
      Sem.run Try.prog (storeCells ⟨blk, off + y * 6, none⟩ cA 0) (W.drew.setCells blk (off + x * 6) cB) = .ok () ((W.drew.setCells blk (off + x * 6) cB).setCells blk (off + y * 6) cA) ∧
      SWK encA.enc 6 w0 blk off (swp D x y) ((W.drew.setCells blk (off + x * 6) cB).setCells blk (off + y * 6) cA) :=
  ⟨6, encA.enc D[x]!, encA.enc D[y]!, rfl, rfl, rfl, S.ld1 R hs _ x hx, S.ld1 R hs _ y hy, S.st1 R hs _ x hx _, S.st2 R hs _ x y hx hy _ _, S.swapped R x y hx hy⟩
set_option maxHeartbeats 4000000 in
set_option maxRecDepth 1000000 in
theorem swapRange_any (R : RowK encA.enc 6 w0 blk off d0) (f : Value) (cap a b n : Nat) (D : Array Pl.Ar) (W : World) (S : SWK encA.enc 6 w0 blk off D W) (hs : D.size = d0.size) (h1 : a + n ≤ b) (h2 : b + n ≤ D.size) (hsz : D.size < 1000000000) :
    Calls Try.prog 86 #[.slice (some ⟨blk, off, none⟩) D.size cap, .int .i64 a, .int .i64 b, .int .i64 n, f] W fun e w' =>
      e = .returned (.tuple #[]) ∧ SWK encA.enc 6 w0 blk off (Stab.swapR a b n D) w' := by
  have HS := Lib.hid S
  have HRR := Lib.hid R
  have HB := Lib.hid (show a + n ≤ b ∧ b + n ≤ D.size ∧ D.size < 1000000000 ∧ D.size = d0.size from ⟨h1, h2, hsz, hs⟩)
  clear S R h1 h2 hsz hs
  go_enter Try.func86, Try.ntmps86
  go_wp2
  go_loopg [10] n (fun g vi wr => ∃ i : Nat, vi = .int .i64 (i : Int) ∧ i ≤ n ∧ n - i ≤ g ∧ SWK encA.enc 6 w0 blk off (Stab.swapR a b i D) wr)
  case atStart => exact ⟨0, rfl, Nat.zero_le _, by omega, HS.out⟩
  case round =>
    obtain ⟨i, rfl, hi, hg, hw⟩ := hrel
    have HW := Lib.hid hw
    have HI := Lib.hid hi
    have HG := Lib.hid hg
    clear hw hi hg
    by_cases hin : i < n
    · have g1 : (i : Int) < (n : Int) := by omega
      have HIN := Lib.hid hin
      obtain ⟨x, hx⟩ : ∃ x, x = a + i := ⟨_, rfl⟩
      obtain ⟨y, hy⟩ : ∃ y, y = b + i := ⟨_, rfl⟩
      have hb := HB.out
      have q1 : ((a : Int) + (i : Int)) = (x : Int) := by omega
      have q2 : ((b : Int) + (i : Int)) = (y : Int) := by omega
      have q3 : IntKind.i64.wrap (x : Int) = (x : Int) := IntWalk.i64_in _ (by omega)
      have q4 : IntKind.i64.wrap (y : Int) = (y : Int) := IntWalk.i64_in _ (by omega)
      have z1 : (x : Int) < (D.size : Int) := by omega
      have z2 : (y : Int) < (D.size : Int) := by omega
      have hi9 : (i : Int) + 1 ≤ 1000000000 := by omega
      obtain ⟨kk, cA, cB, hkk, lA, lB, l1, l2, s1, s2, sw⟩ := swap_facts HRR.out HW.out (by rw [Stab.swapR_size]; exact hb.2.2.2) x y (by rw [Stab.swapR_size]; omega) (by rw [Stab.swapR_size]; omega)
      have HSW := Lib.hid (show SWK encA.enc 6 w0 blk off (Stab.swapR a b (i + 1) D) _ from by rw [Stab.swapR, ← hx, ← hy]; exact sw)
      have mixed := mixedA
      clear hx hy hb sw hin
      go_upto_region 3 with fail
      obtain ⟨T, hT⟩ : ∃ T, T = 39 := ⟨_, rfl⟩
      rw [← hT]
      have aT : ∀ w, (isAgg T).run Try.prog w = .ok true w := by rw [hT]; exact Try.isAgg39
      have zT : ∀ w, (Go.sizeOf T).run Try.prog w = .ok kk w := by rw [hT, hkk]; exact Try.sizeOf39
      clear hT hkk
      go_big_region_o
      all_goals go_wp2
      go_roundg (n - (i + 1))
      case measure => have h1 := HG.out; have h2 := HIN.out; omega
      case rel => exact ⟨i + 1, by first | rfl | go_num, HIN.out, Nat.le_refl _, HSW.out⟩
    · have g1 : ¬ (i : Int) < (n : Int) := by omega
      obtain rfl : i = n := by have := HI.out; omega
      go_wp2
      go_end0
      exact ⟨rfl, HW.out⟩
set_option maxHeartbeats 4000000 in
set_option maxRecDepth 1000000 in
theorem rotate_any (R : RowK encA.enc 6 w0 blk off d0) (f : Value) (cap a m b : Nat) (D : Array Pl.Ar) (W : World) (S : SWK encA.enc 6 w0 blk off D W) (hs : D.size = d0.size) (h1 : a < m) (h2 : m < b) (h3 : b ≤ D.size) (hsz : D.size < 1000000000) :
    Calls Try.prog 79 #[.slice (some ⟨blk, off, none⟩) D.size cap, .int .i64 a, .int .i64 m, .int .i64 b, f] W fun e w' =>
      e = .returned (.tuple #[]) ∧ ∃ D', SWK encA.enc 6 w0 blk off D' w' ∧ PermIn a b D D' ∧ ∀ k, D'[k]! = Stab.rotAt a m b D k := by
  have HS := Lib.hid S
  have HRR := Lib.hid R
  have HB := Lib.hid (show a < m ∧ m < b ∧ b ≤ D.size ∧ D.size < 1000000000 ∧ D.size = d0.size from ⟨h1, h2, h3, hsz, hs⟩)
  obtain ⟨i0, hi0⟩ : ∃ i, i = m - a := ⟨_, rfl⟩
  obtain ⟨j0, hj0⟩ : ∃ j, j = b - m := ⟨_, rfl⟩
  have q1 : ((m : Int) - (a : Int)) = (i0 : Int) := by omega
  have q2 : ((b : Int) - (m : Int)) = (j0 : Int) := by omega
  have q3 : IntKind.i64.wrap (i0 : Int) = (i0 : Int) := IntWalk.i64_in _ (by omega)
  have q4 : IntKind.i64.wrap (j0 : Int) = (j0 : Int) := IntWalk.i64_in _ (by omega)
  have H0 := Lib.hid (show i0 = m - a ∧ j0 = b - m from ⟨hi0, hj0⟩)
  have HN := Lib.hid (show ∀ D', PermIn a b D D' → D'.size = D.size from fun D' h => h.1)
  clear S R h1 h2 h3 hsz hs hi0 hj0
  go_enter Try.func79, Try.ntmps79
  go_wp2
  clear q1 q2 q3 q4
  go_loopg [10, 11] (i0 + j0) (fun g vi vj wr => ∃ (i j : Nat) (D' : Array Pl.Ar), vi = .int .i64 (i : Int) ∧ vj = .int .i64 (j : Int) ∧ 0 < i ∧ 0 < j ∧ i ≤ m - a ∧ j ≤ b - m ∧ i + j ≤ g ∧ SWK encA.enc 6 w0 blk off D' wr ∧ PermIn a b D D' ∧ ∀ k, Stab.rotAt (m - i) m (m + j) D' k = Stab.rotAt a m b D k)
  case atStart => exact ⟨i0, j0, D, rfl, rfl, by have h1 := H0.out; have h2 := HB.out; omega, by have h1 := H0.out; have h2 := HB.out; omega, by have h1 := H0.out; omega, by have h1 := H0.out; omega, Nat.le_refl _, HS.out, permIn_refl D a b, fun k => by have h1 := H0.out; have h2 := HB.out; rw [show m - i0 = a by omega, show m + j0 = b by omega]⟩
  case round =>
    obtain ⟨i, j, D', rfl, rfl, hi, hj, hia, hjb, hg, hw, hp, hr⟩ := hrel
    have hb := HB.out
    have hD' := HN.out D' hp
    have HIJ := Lib.hid (show 0 < i ∧ 0 < j ∧ i ≤ m - a ∧ j ≤ b - m ∧ i + j ≤ gk from ⟨hi, hj, hia, hjb, hg⟩)
    have HP := Lib.hid hp
    have HR := Lib.hid hr
    obtain ⟨x, hx⟩ : ∃ x, x = m - i := ⟨_, rfl⟩
    have q1 : ((m : Int) - (i : Int)) = (x : Int) := by omega
    have q3 : IntKind.i64.wrap (x : Int) = (x : Int) := IntWalk.i64_in _ (by omega)
    have HXX := Lib.hid hx
    by_cases hij : i = j
    · subst hij
      have HC := Lib.hid (swapRange_any HRR.out f cap x m i D' wr hw (by omega) (by omega) (by omega) (by omega))
      rw [hD'] at HC
      have HF := Lib.hid (show ∀ k, (Stab.swapR x m i D')[k]! = Stab.rotAt a m b D k from fun k => by rw [hx, Stab.rotAt_both (by omega) (by omega), hr])
      have HPP := Lib.hid (permIn_trans _ _ _ a b hp (Stab.swapR_perm (a := x) (b := m) i D' (by omega) (by omega) (by omega) (by omega) (by omega)))
      clear hb hD' hp hr hw hx hi hj hia hjb hg
      go_wp2_with fail
      refine HC.out.mono ?_
      rintro e w1 ⟨rfl, hs1⟩
      go_wp2
      go_end0
      exact ⟨rfl, _, hs1, HPP.out, HF.out⟩
    · have g1 : ((i : Int) == (j : Int)) = false := beq_eq_false_iff_ne.2 (by omega)
      have g2 : ¬ (i : Int) = (j : Int) := by omega
      by_cases hlt : j < i
      · have g3 : (j : Int) < (i : Int) := by omega
        have HC := Lib.hid (swapRange_any HRR.out f cap x m j D' wr hw (by omega) (by omega) (by omega) (by omega))
        rw [hD'] at HC
        obtain ⟨y, hy⟩ : ∃ y, y = i - j := ⟨_, rfl⟩
        have q2 : ((i : Int) - (j : Int)) = (y : Int) := by omega
        have q4 : IntKind.i64.wrap (y : Int) = (y : Int) := IntWalk.i64_in _ (by omega)
        have HF := Lib.hid (show ∀ k, Stab.rotAt (m - y) m (m + j) (Stab.swapR x m j D') k = Stab.rotAt a m b D k from fun k => by rw [hx, hy, Stab.rotAt_left (by omega) hlt (by omega), hr])
        have HPP := Lib.hid (permIn_trans _ _ _ a b hp (Stab.swapR_perm (a := x) (b := m) j D' (by omega) (by omega) (by omega) (by omega) (by omega)))
        have HY := Lib.hid (show 0 < y ∧ y ≤ m - a ∧ y + j + 1 ≤ i + j from ⟨by omega, by omega, by omega⟩)
        clear hb hD' hp hr hw hx hi hj hia hjb hg hy hlt hij
        go_wp2_with fail
        refine HC.out.mono ?_
        rintro e w1 ⟨rfl, hs1⟩
        go_wp2
        go_roundg (y + j)
        case measure => have h1 := HY.out; have h2 := HIJ.out; omega
        case rel => exact ⟨y, j, _, rfl, rfl, HY.out.1, HIJ.out.2.1, HY.out.2.1, HIJ.out.2.2.2.1, Nat.le_refl _, hs1, HPP.out, HF.out⟩
      · have g3 : ¬ (j : Int) < (i : Int) := by omega
        obtain ⟨z, hz⟩ : ∃ z, z = m + j := ⟨_, rfl⟩
        obtain ⟨t, ht⟩ : ∃ t, t = m + j - i := ⟨_, rfl⟩
        have q5 : ((m : Int) + (j : Int)) = (z : Int) := by omega
        have q6 : IntKind.i64.wrap (z : Int) = (z : Int) := IntWalk.i64_in _ (by omega)
        have q7 : ((z : Int) - (i : Int)) = (t : Int) := by omega
        have q8 : IntKind.i64.wrap (t : Int) = (t : Int) := IntWalk.i64_in _ (by omega)
        have HC := Lib.hid (swapRange_any HRR.out f cap x t i D' wr hw (by omega) (by omega) (by omega) (by omega))
        rw [hD'] at HC
        obtain ⟨y, hy⟩ : ∃ y, y = j - i := ⟨_, rfl⟩
        have q2 : ((j : Int) - (i : Int)) = (y : Int) := by omega
        have q4 : IntKind.i64.wrap (y : Int) = (y : Int) := IntWalk.i64_in _ (by omega)
        have HF := Lib.hid (show ∀ k, Stab.rotAt (m - i) m (m + y) (Stab.swapR x t i D') k = Stab.rotAt a m b D k from fun k => by rw [hx, hy, ht, Stab.rotAt_right (by omega) (by omega) (by omega), hr])
        have HPP := Lib.hid (permIn_trans _ _ _ a b hp (Stab.swapR_perm (a := x) (b := t) i D' (by omega) (by omega) (by omega) (by omega) (by omega)))
        have HY := Lib.hid (show 0 < y ∧ y ≤ b - m ∧ i + y + 1 ≤ i + j from ⟨by omega, by omega, by omega⟩)
        clear hb hD' hp hr hw hx hi hj hia hjb hg hy hlt hij hz ht
        go_wp2_with fail
        refine HC.out.mono ?_
        rintro e w1 ⟨rfl, hs1⟩
        go_wp2
        go_roundg (i + y)
        case measure => have h1 := HY.out; have h2 := HIJ.out; omega
        case rel => exact ⟨i, y, _, rfl, rfl, HIJ.out.1, HY.out.1, HIJ.out.2.2.1, HY.out.2.1, Nat.le_refl _, hs1, HPP.out, HF.out⟩
end
end Go.Proofs.Ytcacicgkebcdkaa
