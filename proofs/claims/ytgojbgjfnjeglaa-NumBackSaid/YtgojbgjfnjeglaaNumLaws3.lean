/-
  The statements of layer 1: a nil reader; the order.
-/
import Derived.Test.YtgojbgjfnjeglaaNumLaws
import Derived.Test.YtgojbgjfnjeglaaNumOrd
namespace Go.Proofs.Ytgojbgjfnjeglaa
open Go.RowKit Go.Ox
attribute [local irreducible] OB RB

set_option maxRecDepth 100000 in
set_option maxHeartbeats 1000000 in
theorem numNobody_any (k n : Int) (w : World) :
    Calls Try.prog 7 #[.agg #[.int .i64 k, .int .i64 n]] w fun e w' => e = .returned (.bool true) ∧ Ext w w' := by
  have hc0 : (w.alloc (.cells #[.int .i64 k, .int .i64 n] 42)).cell? ⟨w.heap.size, 1, none⟩ = some (.int .i64 n) := (Blk.new _ _ _).cell 1
  have HC := Lib.hid hc0
  clear hc0
  go_enter Try.func7, Try.ntmps7
  go_wp2_with (first
    | (go_at_call 8; refine (lives_any _).mono ?_; rintro e w1 ⟨rfl, he1⟩; have hc1 := he1.cell HC.out)
    | (go_at_call 22; refine (num_nil _).mono ?_; rintro e w' ⟨rfl, rfl⟩)
    | (go_at_call 24; refine (fixed_nil _ _).mono ?_; rintro e w' ⟨rfl, rfl⟩)
    | (go_at_call 25; refine (bytes_nil _ _).mono ?_; rintro e w' ⟨rfl, rfl⟩)
    | (go_at_call 23; refine (text_nil _ _).mono ?_; rintro e w' ⟨rfl, rfl⟩)
    | (go_at_call 19; refine (left_nil _).mono ?_; rintro e w' ⟨rfl, rfl⟩)
    | (go_at_call 18; refine (bad_nil _).mono ?_; rintro e w' ⟨rfl, rfl⟩)
    | (go_at_call 21; refine (done_nil _).mono ?_; rintro e w' ⟨rfl, rfl⟩))
  go_ret
  exact ⟨rfl, ((Ext.refl _).alloc _).trans he1⟩

set_option maxRecDepth 100000 in
set_option maxHeartbeats 1000000 in
theorem numOrders_no (n m : Int) (w : World) (hn : -9223372036854775808 ≤ n ∧ n ≤ 9223372036854775807) (hm : -9223372036854775808 ≤ m ∧ m ≤ 9223372036854775807) (h : n < 0 ∨ m < 0) :
    Calls Try.prog 6 #[.int .i64 n, .int .i64 m] w fun e w' => e = .returned (.bool true) ∧ Ext w w' := by
  by_cases h1 : n < 0
  · by_cases h2 : m < 0
    · clear h
      go_enter Try.func6, Try.ntmps6
      go_wp2_with (first
        | (go_at_call 9; refine (put_neg _ _ (by omega)).mono ?_; rintro e w' ⟨rfl, rfl⟩)
        | (go_at_call 8; refine (lives_any _).mono ?_; rintro e w1 ⟨rfl, he1⟩; go_wp2_with (go_at_call 8; refine (lives_any _).mono ?_; rintro e w2 ⟨rfl, he2⟩)))
      go_ret
      exact ⟨rfl, he1.trans he2⟩
    · obtain ⟨m, rfl⟩ : ∃ k : Nat, m = k := ⟨m.toNat, by omega⟩
      have HP := Lib.hid (fun w => put_any m w (by omega))
      clear h
      go_enter Try.func6, Try.ntmps6
      go_wp2_with fail
      refine (put_neg _ _ (by omega)).mono ?_
      rintro e w' ⟨rfl, rfl⟩
      go_wp2_with fail
      refine (HP.out _).mono ?_
      rintro e w0 ⟨v, rfl, ho, he0⟩
      go_wp2_with fail
      refine (lives_any _).mono ?_
      rintro e w1 ⟨rfl, he1⟩
      go_wp2_with fail
      refine (lives_any _).mono ?_
      rintro e w2 ⟨rfl, he2⟩
      go_wp2
      go_ret
      exact ⟨rfl, (he0.trans he1).trans he2⟩
  · have h2 : m < 0 := by omega
    obtain ⟨n, rfl⟩ : ∃ k : Nat, n = k := ⟨n.toNat, by omega⟩
    have HP := Lib.hid (fun w => put_any n w (by omega))
    clear h
    go_enter Try.func6, Try.ntmps6
    go_wp2_with fail
    refine (HP.out _).mono ?_
    rintro e w0 ⟨v, rfl, ho, he0⟩
    go_wp2_with fail
    refine (put_neg _ _ (by omega)).mono ?_
    rintro e w' ⟨rfl, rfl⟩
    go_wp2_with fail
    refine (lives_any _).mono ?_
    rintro e w1 ⟨rfl, he1⟩
    go_wp2_with fail
    refine (lives_any _).mono ?_
    rintro e w2 ⟨rfl, he2⟩
    go_wp2
    go_ret
    exact ⟨rfl, (he0.trans he1).trans he2⟩

set_option maxRecDepth 100000 in
set_option maxHeartbeats 1000000 in
theorem numOrders_yes (n m : Nat) (w : World) (hn : n < 9223372036854775808) (hm : m < 9223372036854775808) :
    Calls Try.prog 6 #[.int .i64 n, .int .i64 m] w fun e w' => e = .returned (.bool true) ∧ Ext w w' := by
  have HP := Lib.hid (fun w => put_any n w hn)
  have HQ := Lib.hid (fun w => put_any m w hm)
  have hless := Num.put_less hn hm
  have hpre := Num.put_pre hn hm
  generalize Num.put n = a at *
  generalize Num.put m = b at *
  have HL := Lib.hid hless
  have HE := Lib.hid hpre
  clear hless hpre
  go_enter Try.func6, Try.ntmps6
  go_wp2_with fail
  refine (HP.out _).mono ?_
  rintro e w1 ⟨v1, rfl, ho1, he1⟩
  obtain ⟨A1, c1, rfl⟩ := ho1.form
  have HO1 := Lib.hid ho1
  clear ho1
  go_wp2_with fail
  refine (HQ.out _).mono ?_
  rintro e w2 ⟨v2, rfl, ho2, he2⟩
  obtain ⟨A2, c2, rfl⟩ := ho2.form
  have HO2 := Lib.hid ho2
  clear ho2
  go_wp2_with fail
  refine (lives_any _).mono ?_
  rintro e w3 ⟨rfl, he3⟩
  have hs1 := HO1.out.rb.ext (he2.trans he3)
  have hs2 := HO2.out.rb.ext he3
  have H1 := Lib.hid hs1
  have H2 := Lib.hid hs2
  clear hs1 hs2
  rcases Nat.lt_trichotomy n m with hnm | hnm | hnm
  · have g1 : (n : Int) < (m : Int) := by omega
    have g2 : ((n : Int) == (m : Int)) = false := by simp; omega
    have hl : (decide (n < m)) = true := by simpa using hnm
    rw [hl] at HL
    clear hl
    by_cases hl : b.length < a.length
    · have gl : ((b.length : Int) < (a.length : Int)) := by omega
      go_wp2
      refine wp_region_ext (by kernel_rfl) (by rfl) (by rfl) (by kernel_rfl) ?_
      repeat (first | ((first | (refine wpM_move00 Ext.refl rfl rfl rfl ?_) | (refine wpM_move01 Ext.refl rfl rfl rfl rfl ?_)); apply Exists.intro; refine ⟨?_, ?_⟩; · (go_simp; rfl)) | (first | (refine wpM_movek0 Ext.refl rfl rfl rfl ?_) | (refine wpM_movek1 Ext.refl rfl rfl rfl rfl ?_)) | ((first | (refine wpM_val0 Ext.refl rfl ?_) | (refine wpM_val1 Ext.refl rfl rfl ?_)); apply Exists.intro; refine ⟨?_, ?_⟩; · (intro a w' hR; intro h1; (first | (have e1 : _ = _ := h1) | skip); intro h2; (first | (have e2 : _ = _ := h2) | skip); go_simp; rfl)) | ((first | (refine wpM_val0 Ext.refl rfl ?_) | (refine wpM_val1 Ext.refl rfl rfl ?_)); apply Exists.intro; refine ⟨?_, ?_⟩; · (intro a w' hR; intro h1; (first | (have e1 : _ = _ := h1) | skip); go_simp; rfl)) | ((first | (refine wpM_val0 Ext.refl rfl ?_) | (refine wpM_val1 Ext.refl rfl rfl ?_)); apply Exists.intro; refine ⟨?_, ?_⟩; · (intro a w' hR; go_simp; rfl)) | ((first | (refine wpM_val0 Ext.refl rfl ?_) | (refine wpM_val1 Ext.refl rfl rfl ?_)); apply Exists.intro; refine ⟨?_, ?_⟩; · (intro a w' hR; intro h1; (first | (have e1 : _ = _ := h1) | skip); intro h2; (first | (have e2 : _ = _ := h2) | skip); intro h3; (first | (have e3 : _ = _ := h3) | skip); go_simp; rfl)) | (refine wpM_skip1 rfl ?_))
      (first | (refine wpM_val0 Ext.refl rfl ?_) | (refine wpM_val1 Ext.refl rfl rfl ?_)); apply Exists.intro; refine ⟨?_, ?_⟩
      · intro a w' hR h1
        have e1 : _ = _ := h1
        have hs := strB (H1.out.ext hR)
        go_simp
        rfl
      repeat (first | ((first | (refine wpM_move00 Ext.refl rfl rfl rfl ?_) | (refine wpM_move01 Ext.refl rfl rfl rfl rfl ?_)); apply Exists.intro; refine ⟨?_, ?_⟩; · (go_simp; rfl)) | (first | (refine wpM_movek0 Ext.refl rfl rfl rfl ?_) | (refine wpM_movek1 Ext.refl rfl rfl rfl rfl ?_)) | ((first | (refine wpM_val0 Ext.refl rfl ?_) | (refine wpM_val1 Ext.refl rfl rfl ?_)); apply Exists.intro; refine ⟨?_, ?_⟩; · (intro a w' hR; intro h1; (first | (have e1 : _ = _ := h1) | skip); intro h2; (first | (have e2 : _ = _ := h2) | skip); go_simp; rfl)) | ((first | (refine wpM_val0 Ext.refl rfl ?_) | (refine wpM_val1 Ext.refl rfl rfl ?_)); apply Exists.intro; refine ⟨?_, ?_⟩; · (intro a w' hR; intro h1; (first | (have e1 : _ = _ := h1) | skip); go_simp; rfl)) | ((first | (refine wpM_val0 Ext.refl rfl ?_) | (refine wpM_val1 Ext.refl rfl rfl ?_)); apply Exists.intro; refine ⟨?_, ?_⟩; · (intro a w' hR; go_simp; rfl)) | ((first | (refine wpM_val0 Ext.refl rfl ?_) | (refine wpM_val1 Ext.refl rfl rfl ?_)); apply Exists.intro; refine ⟨?_, ?_⟩; · (intro a w' hR; intro h1; (first | (have e1 : _ = _ := h1) | skip); intro h2; (first | (have e2 : _ = _ := h2) | skip); intro h3; (first | (have e3 : _ = _ := h3) | skip); go_simp; rfl)) | (refine wpM_skip1 rfl ?_))
      (first | (refine wpM_val0 Ext.refl rfl ?_) | (refine wpM_val1 Ext.refl rfl rfl ?_)); apply Exists.intro; refine ⟨?_, ?_⟩
      · intro a w' hR h1
        have e1 : _ = _ := h1
        have hs := strB (H2.out.ext hR)
        go_simp
        rfl
      refine wpM_val0 Ext.refl rfl ?_; apply Exists.intro; refine ⟨?_, ?_⟩
      · intro a' w' hR h1 h2
        have e1 : _ = _ := h1
        have e2 : _ = _ := h2
        go_simp
        rw [HL.out]
        rfl
      repeat (first | ((first | (refine wpM_move00 Ext.refl rfl rfl rfl ?_) | (refine wpM_move01 Ext.refl rfl rfl rfl rfl ?_)); apply Exists.intro; refine ⟨?_, ?_⟩; · (go_simp; rfl)) | (first | (refine wpM_movek0 Ext.refl rfl rfl rfl ?_) | (refine wpM_movek1 Ext.refl rfl rfl rfl rfl ?_)) | ((first | (refine wpM_val0 Ext.refl rfl ?_) | (refine wpM_val1 Ext.refl rfl rfl ?_)); apply Exists.intro; refine ⟨?_, ?_⟩; · (intro a w' hR; intro h1; (first | (have e1 : _ = _ := h1) | skip); intro h2; (first | (have e2 : _ = _ := h2) | skip); go_simp; rfl)) | ((first | (refine wpM_val0 Ext.refl rfl ?_) | (refine wpM_val1 Ext.refl rfl rfl ?_)); apply Exists.intro; refine ⟨?_, ?_⟩; · (intro a w' hR; intro h1; (first | (have e1 : _ = _ := h1) | skip); go_simp; rfl)) | ((first | (refine wpM_val0 Ext.refl rfl ?_) | (refine wpM_val1 Ext.refl rfl rfl ?_)); apply Exists.intro; refine ⟨?_, ?_⟩; · (intro a w' hR; go_simp; rfl)) | ((first | (refine wpM_val0 Ext.refl rfl ?_) | (refine wpM_val1 Ext.refl rfl rfl ?_)); apply Exists.intro; refine ⟨?_, ?_⟩; · (intro a w' hR; intro h1; (first | (have e1 : _ = _ := h1) | skip); intro h2; (first | (have e2 : _ = _ := h2) | skip); intro h3; (first | (have e3 : _ = _ := h3) | skip); go_simp; rfl)) | (refine wpM_skip1 rfl ?_))
      refine wpM_done ?_
      intro w4 hx4
      iterate 32 (rintro _ rfl)
      dsimp only [FinV]
      go_simp
      go_wp2
      go_ret
      exact ⟨rfl, ((he1.trans he2).trans he3).trans hx4⟩
    · have gl : ¬ ((b.length : Int) < (a.length : Int)) := by omega
      have gc : ((a.length : Int) ≤ (c2 : Int)) := by have := H2.out.nc.1; omega
      have H3 := Lib.hid (H2.out.takeS (k := a.length) (by omega))
      have hq : (b.take a.length == a) = false := by simpa using HE.out (by omega)
      have HQ2 := Lib.hid hq
      clear hq
      go_wp2
      refine wp_region_ext (by kernel_rfl) (by rfl) (by rfl) (by kernel_rfl) ?_
      repeat (first | ((first | (refine wpM_move00 Ext.refl rfl rfl rfl ?_) | (refine wpM_move01 Ext.refl rfl rfl rfl rfl ?_)); apply Exists.intro; refine ⟨?_, ?_⟩; · (go_simp; rfl)) | (first | (refine wpM_movek0 Ext.refl rfl rfl rfl ?_) | (refine wpM_movek1 Ext.refl rfl rfl rfl rfl ?_)) | ((first | (refine wpM_val0 Ext.refl rfl ?_) | (refine wpM_val1 Ext.refl rfl rfl ?_)); apply Exists.intro; refine ⟨?_, ?_⟩; · (intro a w' hR; intro h1; (first | (have e1 : _ = _ := h1) | skip); intro h2; (first | (have e2 : _ = _ := h2) | skip); go_simp; rfl)) | ((first | (refine wpM_val0 Ext.refl rfl ?_) | (refine wpM_val1 Ext.refl rfl rfl ?_)); apply Exists.intro; refine ⟨?_, ?_⟩; · (intro a w' hR; intro h1; (first | (have e1 : _ = _ := h1) | skip); go_simp; rfl)) | ((first | (refine wpM_val0 Ext.refl rfl ?_) | (refine wpM_val1 Ext.refl rfl rfl ?_)); apply Exists.intro; refine ⟨?_, ?_⟩; · (intro a w' hR; go_simp; rfl)) | ((first | (refine wpM_val0 Ext.refl rfl ?_) | (refine wpM_val1 Ext.refl rfl rfl ?_)); apply Exists.intro; refine ⟨?_, ?_⟩; · (intro a w' hR; intro h1; (first | (have e1 : _ = _ := h1) | skip); intro h2; (first | (have e2 : _ = _ := h2) | skip); intro h3; (first | (have e3 : _ = _ := h3) | skip); go_simp; rfl)) | (refine wpM_skip1 rfl ?_))
      (first | (refine wpM_val0 Ext.refl rfl ?_) | (refine wpM_val1 Ext.refl rfl rfl ?_)); apply Exists.intro; refine ⟨?_, ?_⟩
      · intro a w' hR h1
        have e1 : _ = _ := h1
        have hs := strB (H1.out.ext hR)
        go_simp
        rfl
      repeat (first | ((first | (refine wpM_move00 Ext.refl rfl rfl rfl ?_) | (refine wpM_move01 Ext.refl rfl rfl rfl rfl ?_)); apply Exists.intro; refine ⟨?_, ?_⟩; · (go_simp; rfl)) | (first | (refine wpM_movek0 Ext.refl rfl rfl rfl ?_) | (refine wpM_movek1 Ext.refl rfl rfl rfl rfl ?_)) | ((first | (refine wpM_val0 Ext.refl rfl ?_) | (refine wpM_val1 Ext.refl rfl rfl ?_)); apply Exists.intro; refine ⟨?_, ?_⟩; · (intro a w' hR; intro h1; (first | (have e1 : _ = _ := h1) | skip); intro h2; (first | (have e2 : _ = _ := h2) | skip); go_simp; rfl)) | ((first | (refine wpM_val0 Ext.refl rfl ?_) | (refine wpM_val1 Ext.refl rfl rfl ?_)); apply Exists.intro; refine ⟨?_, ?_⟩; · (intro a w' hR; intro h1; (first | (have e1 : _ = _ := h1) | skip); go_simp; rfl)) | ((first | (refine wpM_val0 Ext.refl rfl ?_) | (refine wpM_val1 Ext.refl rfl rfl ?_)); apply Exists.intro; refine ⟨?_, ?_⟩; · (intro a w' hR; go_simp; rfl)) | ((first | (refine wpM_val0 Ext.refl rfl ?_) | (refine wpM_val1 Ext.refl rfl rfl ?_)); apply Exists.intro; refine ⟨?_, ?_⟩; · (intro a w' hR; intro h1; (first | (have e1 : _ = _ := h1) | skip); intro h2; (first | (have e2 : _ = _ := h2) | skip); intro h3; (first | (have e3 : _ = _ := h3) | skip); go_simp; rfl)) | (refine wpM_skip1 rfl ?_))
      (first | (refine wpM_val0 Ext.refl rfl ?_) | (refine wpM_val1 Ext.refl rfl rfl ?_)); apply Exists.intro; refine ⟨?_, ?_⟩
      · intro a w' hR h1
        have e1 : _ = _ := h1
        have hs := strB (H2.out.ext hR)
        go_simp
        rfl
      refine wpM_val0 Ext.refl rfl ?_; apply Exists.intro; refine ⟨?_, ?_⟩
      · intro a' w' hR h1 h2
        have e1 : _ = _ := h1
        have e2 : _ = _ := h2
        go_simp
        rw [HL.out]
        rfl
      repeat (first | ((first | (refine wpM_move00 Ext.refl rfl rfl rfl ?_) | (refine wpM_move01 Ext.refl rfl rfl rfl rfl ?_)); apply Exists.intro; refine ⟨?_, ?_⟩; · (go_simp; rfl)) | (first | (refine wpM_movek0 Ext.refl rfl rfl rfl ?_) | (refine wpM_movek1 Ext.refl rfl rfl rfl rfl ?_)) | ((first | (refine wpM_val0 Ext.refl rfl ?_) | (refine wpM_val1 Ext.refl rfl rfl ?_)); apply Exists.intro; refine ⟨?_, ?_⟩; · (intro a w' hR; intro h1; (first | (have e1 : _ = _ := h1) | skip); intro h2; (first | (have e2 : _ = _ := h2) | skip); go_simp; rfl)) | ((first | (refine wpM_val0 Ext.refl rfl ?_) | (refine wpM_val1 Ext.refl rfl rfl ?_)); apply Exists.intro; refine ⟨?_, ?_⟩; · (intro a w' hR; intro h1; (first | (have e1 : _ = _ := h1) | skip); go_simp; rfl)) | ((first | (refine wpM_val0 Ext.refl rfl ?_) | (refine wpM_val1 Ext.refl rfl rfl ?_)); apply Exists.intro; refine ⟨?_, ?_⟩; · (intro a w' hR; go_simp; rfl)) | ((first | (refine wpM_val0 Ext.refl rfl ?_) | (refine wpM_val1 Ext.refl rfl rfl ?_)); apply Exists.intro; refine ⟨?_, ?_⟩; · (intro a w' hR; intro h1; (first | (have e1 : _ = _ := h1) | skip); intro h2; (first | (have e2 : _ = _ := h2) | skip); intro h3; (first | (have e3 : _ = _ := h3) | skip); go_simp; rfl)) | (refine wpM_skip1 rfl ?_))
      (first | (refine wpM_val0 Ext.refl rfl ?_) | (refine wpM_val1 Ext.refl rfl rfl ?_)); apply Exists.intro; refine ⟨?_, ?_⟩
      · intro a w' hR h1
        have e1 : _ = _ := h1
        have hs := strB (H3.out.ext hR)
        go_simp
        rfl
      repeat (first | ((first | (refine wpM_move00 Ext.refl rfl rfl rfl ?_) | (refine wpM_move01 Ext.refl rfl rfl rfl rfl ?_)); apply Exists.intro; refine ⟨?_, ?_⟩; · (go_simp; rfl)) | (first | (refine wpM_movek0 Ext.refl rfl rfl rfl ?_) | (refine wpM_movek1 Ext.refl rfl rfl rfl rfl ?_)) | ((first | (refine wpM_val0 Ext.refl rfl ?_) | (refine wpM_val1 Ext.refl rfl rfl ?_)); apply Exists.intro; refine ⟨?_, ?_⟩; · (intro a w' hR; intro h1; (first | (have e1 : _ = _ := h1) | skip); intro h2; (first | (have e2 : _ = _ := h2) | skip); go_simp; rfl)) | ((first | (refine wpM_val0 Ext.refl rfl ?_) | (refine wpM_val1 Ext.refl rfl rfl ?_)); apply Exists.intro; refine ⟨?_, ?_⟩; · (intro a w' hR; intro h1; (first | (have e1 : _ = _ := h1) | skip); go_simp; rfl)) | ((first | (refine wpM_val0 Ext.refl rfl ?_) | (refine wpM_val1 Ext.refl rfl rfl ?_)); apply Exists.intro; refine ⟨?_, ?_⟩; · (intro a w' hR; go_simp; rfl)) | ((first | (refine wpM_val0 Ext.refl rfl ?_) | (refine wpM_val1 Ext.refl rfl rfl ?_)); apply Exists.intro; refine ⟨?_, ?_⟩; · (intro a w' hR; intro h1; (first | (have e1 : _ = _ := h1) | skip); intro h2; (first | (have e2 : _ = _ := h2) | skip); intro h3; (first | (have e3 : _ = _ := h3) | skip); go_simp; rfl)) | (refine wpM_skip1 rfl ?_))
      (first | (refine wpM_val0 Ext.refl rfl ?_) | (refine wpM_val1 Ext.refl rfl rfl ?_)); apply Exists.intro; refine ⟨?_, ?_⟩
      · intro a w' hR h1
        have e1 : _ = _ := h1
        have hs := strB (H1.out.ext hR)
        go_simp
        rfl
      refine wpM_val1 Ext.refl rfl rfl ?_; apply Exists.intro; refine ⟨?_, ?_⟩
      · intro a' w' hR h1 h2
        have e1 : _ = _ := h1
        have e2 : _ = _ := h2
        go_simp
        rw [HQ2.out]
        rfl
      repeat (first | ((first | (refine wpM_move00 Ext.refl rfl rfl rfl ?_) | (refine wpM_move01 Ext.refl rfl rfl rfl rfl ?_)); apply Exists.intro; refine ⟨?_, ?_⟩; · (go_simp; rfl)) | (first | (refine wpM_movek0 Ext.refl rfl rfl rfl ?_) | (refine wpM_movek1 Ext.refl rfl rfl rfl rfl ?_)) | ((first | (refine wpM_val0 Ext.refl rfl ?_) | (refine wpM_val1 Ext.refl rfl rfl ?_)); apply Exists.intro; refine ⟨?_, ?_⟩; · (intro a w' hR; intro h1; (first | (have e1 : _ = _ := h1) | skip); intro h2; (first | (have e2 : _ = _ := h2) | skip); go_simp; rfl)) | ((first | (refine wpM_val0 Ext.refl rfl ?_) | (refine wpM_val1 Ext.refl rfl rfl ?_)); apply Exists.intro; refine ⟨?_, ?_⟩; · (intro a w' hR; intro h1; (first | (have e1 : _ = _ := h1) | skip); go_simp; rfl)) | ((first | (refine wpM_val0 Ext.refl rfl ?_) | (refine wpM_val1 Ext.refl rfl rfl ?_)); apply Exists.intro; refine ⟨?_, ?_⟩; · (intro a w' hR; go_simp; rfl)) | ((first | (refine wpM_val0 Ext.refl rfl ?_) | (refine wpM_val1 Ext.refl rfl rfl ?_)); apply Exists.intro; refine ⟨?_, ?_⟩; · (intro a w' hR; intro h1; (first | (have e1 : _ = _ := h1) | skip); intro h2; (first | (have e2 : _ = _ := h2) | skip); intro h3; (first | (have e3 : _ = _ := h3) | skip); go_simp; rfl)) | (refine wpM_skip1 rfl ?_))
      refine wpM_done ?_
      intro w4 hx4
      iterate 32 (rintro _ rfl)
      dsimp only [FinV]
      go_simp
      go_wp2
      go_ret
      exact ⟨rfl, ((he1.trans he2).trans he3).trans hx4⟩
  · subst hnm
    have g1 : ((n : Int) == (n : Int)) = true := by simp
    have hl : (decide (n < n)) = false := by simp
    rw [hl] at HL
    clear hl
    go_wp2
    refine wp_region_ext (by kernel_rfl) (by rfl) (by rfl) (by kernel_rfl) ?_
    repeat (first | ((first | (refine wpM_move00 Ext.refl rfl rfl rfl ?_) | (refine wpM_move01 Ext.refl rfl rfl rfl rfl ?_)); apply Exists.intro; refine ⟨?_, ?_⟩; · (go_simp; rfl)) | (first | (refine wpM_movek0 Ext.refl rfl rfl rfl ?_) | (refine wpM_movek1 Ext.refl rfl rfl rfl rfl ?_)) | ((first | (refine wpM_val0 Ext.refl rfl ?_) | (refine wpM_val1 Ext.refl rfl rfl ?_)); apply Exists.intro; refine ⟨?_, ?_⟩; · (intro a w' hR; intro h1; (first | (have e1 : _ = _ := h1) | skip); intro h2; (first | (have e2 : _ = _ := h2) | skip); go_simp; rfl)) | ((first | (refine wpM_val0 Ext.refl rfl ?_) | (refine wpM_val1 Ext.refl rfl rfl ?_)); apply Exists.intro; refine ⟨?_, ?_⟩; · (intro a w' hR; intro h1; (first | (have e1 : _ = _ := h1) | skip); go_simp; rfl)) | ((first | (refine wpM_val0 Ext.refl rfl ?_) | (refine wpM_val1 Ext.refl rfl rfl ?_)); apply Exists.intro; refine ⟨?_, ?_⟩; · (intro a w' hR; go_simp; rfl)) | ((first | (refine wpM_val0 Ext.refl rfl ?_) | (refine wpM_val1 Ext.refl rfl rfl ?_)); apply Exists.intro; refine ⟨?_, ?_⟩; · (intro a w' hR; intro h1; (first | (have e1 : _ = _ := h1) | skip); intro h2; (first | (have e2 : _ = _ := h2) | skip); intro h3; (first | (have e3 : _ = _ := h3) | skip); go_simp; rfl)) | (refine wpM_skip1 rfl ?_))
    (first | (refine wpM_val0 Ext.refl rfl ?_) | (refine wpM_val1 Ext.refl rfl rfl ?_)); apply Exists.intro; refine ⟨?_, ?_⟩
    · intro a w' hR h1
      have e1 : _ = _ := h1
      have hs := strB (H1.out.ext hR)
      go_simp
      rfl
    repeat (first | ((first | (refine wpM_move00 Ext.refl rfl rfl rfl ?_) | (refine wpM_move01 Ext.refl rfl rfl rfl rfl ?_)); apply Exists.intro; refine ⟨?_, ?_⟩; · (go_simp; rfl)) | (first | (refine wpM_movek0 Ext.refl rfl rfl rfl ?_) | (refine wpM_movek1 Ext.refl rfl rfl rfl rfl ?_)) | ((first | (refine wpM_val0 Ext.refl rfl ?_) | (refine wpM_val1 Ext.refl rfl rfl ?_)); apply Exists.intro; refine ⟨?_, ?_⟩; · (intro a w' hR; intro h1; (first | (have e1 : _ = _ := h1) | skip); intro h2; (first | (have e2 : _ = _ := h2) | skip); go_simp; rfl)) | ((first | (refine wpM_val0 Ext.refl rfl ?_) | (refine wpM_val1 Ext.refl rfl rfl ?_)); apply Exists.intro; refine ⟨?_, ?_⟩; · (intro a w' hR; intro h1; (first | (have e1 : _ = _ := h1) | skip); go_simp; rfl)) | ((first | (refine wpM_val0 Ext.refl rfl ?_) | (refine wpM_val1 Ext.refl rfl rfl ?_)); apply Exists.intro; refine ⟨?_, ?_⟩; · (intro a w' hR; go_simp; rfl)) | ((first | (refine wpM_val0 Ext.refl rfl ?_) | (refine wpM_val1 Ext.refl rfl rfl ?_)); apply Exists.intro; refine ⟨?_, ?_⟩; · (intro a w' hR; intro h1; (first | (have e1 : _ = _ := h1) | skip); intro h2; (first | (have e2 : _ = _ := h2) | skip); intro h3; (first | (have e3 : _ = _ := h3) | skip); go_simp; rfl)) | (refine wpM_skip1 rfl ?_))
    (first | (refine wpM_val0 Ext.refl rfl ?_) | (refine wpM_val1 Ext.refl rfl rfl ?_)); apply Exists.intro; refine ⟨?_, ?_⟩
    · intro a w' hR h1
      have e1 : _ = _ := h1
      have hs := strB (H2.out.ext hR)
      go_simp
      rfl
    refine wpM_val0 Ext.refl rfl ?_; apply Exists.intro; refine ⟨?_, ?_⟩
    · intro a' w' hR h1 h2
      have e1 : _ = _ := h1
      have e2 : _ = _ := h2
      go_simp
      rw [HL.out]
      rfl
    repeat (first | ((first | (refine wpM_move00 Ext.refl rfl rfl rfl ?_) | (refine wpM_move01 Ext.refl rfl rfl rfl rfl ?_)); apply Exists.intro; refine ⟨?_, ?_⟩; · (go_simp; rfl)) | (first | (refine wpM_movek0 Ext.refl rfl rfl rfl ?_) | (refine wpM_movek1 Ext.refl rfl rfl rfl rfl ?_)) | ((first | (refine wpM_val0 Ext.refl rfl ?_) | (refine wpM_val1 Ext.refl rfl rfl ?_)); apply Exists.intro; refine ⟨?_, ?_⟩; · (intro a w' hR; intro h1; (first | (have e1 : _ = _ := h1) | skip); intro h2; (first | (have e2 : _ = _ := h2) | skip); go_simp; rfl)) | ((first | (refine wpM_val0 Ext.refl rfl ?_) | (refine wpM_val1 Ext.refl rfl rfl ?_)); apply Exists.intro; refine ⟨?_, ?_⟩; · (intro a w' hR; intro h1; (first | (have e1 : _ = _ := h1) | skip); go_simp; rfl)) | ((first | (refine wpM_val0 Ext.refl rfl ?_) | (refine wpM_val1 Ext.refl rfl rfl ?_)); apply Exists.intro; refine ⟨?_, ?_⟩; · (intro a w' hR; go_simp; rfl)) | ((first | (refine wpM_val0 Ext.refl rfl ?_) | (refine wpM_val1 Ext.refl rfl rfl ?_)); apply Exists.intro; refine ⟨?_, ?_⟩; · (intro a w' hR; intro h1; (first | (have e1 : _ = _ := h1) | skip); intro h2; (first | (have e2 : _ = _ := h2) | skip); intro h3; (first | (have e3 : _ = _ := h3) | skip); go_simp; rfl)) | (refine wpM_skip1 rfl ?_))
    refine wpM_done ?_
    intro w4 hx4
    iterate 32 (rintro _ rfl)
    dsimp only [FinV]
    go_simp
    go_wp2
    go_ret
    exact ⟨rfl, ((he1.trans he2).trans he3).trans hx4⟩
  · have g1 : ¬ (n : Int) < (m : Int) := by omega
    have g3 : decide (n < m) = false := by simp; omega
    have g2 : ((n : Int) == (m : Int)) = false := by simp; omega
    have hl : (decide (n < m)) = false := by simp; omega
    rw [hl] at HL
    clear hl
    by_cases hl : b.length < a.length
    · have gl : ((b.length : Int) < (a.length : Int)) := by omega
      go_wp2
      refine wp_region_ext (by kernel_rfl) (by rfl) (by rfl) (by kernel_rfl) ?_
      repeat (first | ((first | (refine wpM_move00 Ext.refl rfl rfl rfl ?_) | (refine wpM_move01 Ext.refl rfl rfl rfl rfl ?_)); apply Exists.intro; refine ⟨?_, ?_⟩; · (go_simp; rfl)) | (first | (refine wpM_movek0 Ext.refl rfl rfl rfl ?_) | (refine wpM_movek1 Ext.refl rfl rfl rfl rfl ?_)) | ((first | (refine wpM_val0 Ext.refl rfl ?_) | (refine wpM_val1 Ext.refl rfl rfl ?_)); apply Exists.intro; refine ⟨?_, ?_⟩; · (intro a w' hR; intro h1; (first | (have e1 : _ = _ := h1) | skip); intro h2; (first | (have e2 : _ = _ := h2) | skip); go_simp; rfl)) | ((first | (refine wpM_val0 Ext.refl rfl ?_) | (refine wpM_val1 Ext.refl rfl rfl ?_)); apply Exists.intro; refine ⟨?_, ?_⟩; · (intro a w' hR; intro h1; (first | (have e1 : _ = _ := h1) | skip); go_simp; rfl)) | ((first | (refine wpM_val0 Ext.refl rfl ?_) | (refine wpM_val1 Ext.refl rfl rfl ?_)); apply Exists.intro; refine ⟨?_, ?_⟩; · (intro a w' hR; go_simp; rfl)) | ((first | (refine wpM_val0 Ext.refl rfl ?_) | (refine wpM_val1 Ext.refl rfl rfl ?_)); apply Exists.intro; refine ⟨?_, ?_⟩; · (intro a w' hR; intro h1; (first | (have e1 : _ = _ := h1) | skip); intro h2; (first | (have e2 : _ = _ := h2) | skip); intro h3; (first | (have e3 : _ = _ := h3) | skip); go_simp; rfl)) | (refine wpM_skip1 rfl ?_))
      (first | (refine wpM_val0 Ext.refl rfl ?_) | (refine wpM_val1 Ext.refl rfl rfl ?_)); apply Exists.intro; refine ⟨?_, ?_⟩
      · intro a w' hR h1
        have e1 : _ = _ := h1
        have hs := strB (H1.out.ext hR)
        go_simp
        rfl
      repeat (first | ((first | (refine wpM_move00 Ext.refl rfl rfl rfl ?_) | (refine wpM_move01 Ext.refl rfl rfl rfl rfl ?_)); apply Exists.intro; refine ⟨?_, ?_⟩; · (go_simp; rfl)) | (first | (refine wpM_movek0 Ext.refl rfl rfl rfl ?_) | (refine wpM_movek1 Ext.refl rfl rfl rfl rfl ?_)) | ((first | (refine wpM_val0 Ext.refl rfl ?_) | (refine wpM_val1 Ext.refl rfl rfl ?_)); apply Exists.intro; refine ⟨?_, ?_⟩; · (intro a w' hR; intro h1; (first | (have e1 : _ = _ := h1) | skip); intro h2; (first | (have e2 : _ = _ := h2) | skip); go_simp; rfl)) | ((first | (refine wpM_val0 Ext.refl rfl ?_) | (refine wpM_val1 Ext.refl rfl rfl ?_)); apply Exists.intro; refine ⟨?_, ?_⟩; · (intro a w' hR; intro h1; (first | (have e1 : _ = _ := h1) | skip); go_simp; rfl)) | ((first | (refine wpM_val0 Ext.refl rfl ?_) | (refine wpM_val1 Ext.refl rfl rfl ?_)); apply Exists.intro; refine ⟨?_, ?_⟩; · (intro a w' hR; go_simp; rfl)) | ((first | (refine wpM_val0 Ext.refl rfl ?_) | (refine wpM_val1 Ext.refl rfl rfl ?_)); apply Exists.intro; refine ⟨?_, ?_⟩; · (intro a w' hR; intro h1; (first | (have e1 : _ = _ := h1) | skip); intro h2; (first | (have e2 : _ = _ := h2) | skip); intro h3; (first | (have e3 : _ = _ := h3) | skip); go_simp; rfl)) | (refine wpM_skip1 rfl ?_))
      (first | (refine wpM_val0 Ext.refl rfl ?_) | (refine wpM_val1 Ext.refl rfl rfl ?_)); apply Exists.intro; refine ⟨?_, ?_⟩
      · intro a w' hR h1
        have e1 : _ = _ := h1
        have hs := strB (H2.out.ext hR)
        go_simp
        rfl
      refine wpM_val0 Ext.refl rfl ?_; apply Exists.intro; refine ⟨?_, ?_⟩
      · intro a' w' hR h1 h2
        have e1 : _ = _ := h1
        have e2 : _ = _ := h2
        go_simp
        rw [HL.out]
        rfl
      repeat (first | ((first | (refine wpM_move00 Ext.refl rfl rfl rfl ?_) | (refine wpM_move01 Ext.refl rfl rfl rfl rfl ?_)); apply Exists.intro; refine ⟨?_, ?_⟩; · (go_simp; rfl)) | (first | (refine wpM_movek0 Ext.refl rfl rfl rfl ?_) | (refine wpM_movek1 Ext.refl rfl rfl rfl rfl ?_)) | ((first | (refine wpM_val0 Ext.refl rfl ?_) | (refine wpM_val1 Ext.refl rfl rfl ?_)); apply Exists.intro; refine ⟨?_, ?_⟩; · (intro a w' hR; intro h1; (first | (have e1 : _ = _ := h1) | skip); intro h2; (first | (have e2 : _ = _ := h2) | skip); go_simp; rfl)) | ((first | (refine wpM_val0 Ext.refl rfl ?_) | (refine wpM_val1 Ext.refl rfl rfl ?_)); apply Exists.intro; refine ⟨?_, ?_⟩; · (intro a w' hR; intro h1; (first | (have e1 : _ = _ := h1) | skip); go_simp; rfl)) | ((first | (refine wpM_val0 Ext.refl rfl ?_) | (refine wpM_val1 Ext.refl rfl rfl ?_)); apply Exists.intro; refine ⟨?_, ?_⟩; · (intro a w' hR; go_simp; rfl)) | ((first | (refine wpM_val0 Ext.refl rfl ?_) | (refine wpM_val1 Ext.refl rfl rfl ?_)); apply Exists.intro; refine ⟨?_, ?_⟩; · (intro a w' hR; intro h1; (first | (have e1 : _ = _ := h1) | skip); intro h2; (first | (have e2 : _ = _ := h2) | skip); intro h3; (first | (have e3 : _ = _ := h3) | skip); go_simp; rfl)) | (refine wpM_skip1 rfl ?_))
      refine wpM_done ?_
      intro w4 hx4
      iterate 32 (rintro _ rfl)
      dsimp only [FinV]
      go_simp
      go_wp2
      go_ret
      exact ⟨rfl, ((he1.trans he2).trans he3).trans hx4⟩
    · have gl : ¬ ((b.length : Int) < (a.length : Int)) := by omega
      have gc : ((a.length : Int) ≤ (c2 : Int)) := by have := H2.out.nc.1; omega
      have H3 := Lib.hid (H2.out.takeS (k := a.length) (by omega))
      have hq : (b.take a.length == a) = false := by simpa using HE.out (by omega)
      have HQ2 := Lib.hid hq
      clear hq
      go_wp2
      refine wp_region_ext (by kernel_rfl) (by rfl) (by rfl) (by kernel_rfl) ?_
      repeat (first | ((first | (refine wpM_move00 Ext.refl rfl rfl rfl ?_) | (refine wpM_move01 Ext.refl rfl rfl rfl rfl ?_)); apply Exists.intro; refine ⟨?_, ?_⟩; · (go_simp; rfl)) | (first | (refine wpM_movek0 Ext.refl rfl rfl rfl ?_) | (refine wpM_movek1 Ext.refl rfl rfl rfl rfl ?_)) | ((first | (refine wpM_val0 Ext.refl rfl ?_) | (refine wpM_val1 Ext.refl rfl rfl ?_)); apply Exists.intro; refine ⟨?_, ?_⟩; · (intro a w' hR; intro h1; (first | (have e1 : _ = _ := h1) | skip); intro h2; (first | (have e2 : _ = _ := h2) | skip); go_simp; rfl)) | ((first | (refine wpM_val0 Ext.refl rfl ?_) | (refine wpM_val1 Ext.refl rfl rfl ?_)); apply Exists.intro; refine ⟨?_, ?_⟩; · (intro a w' hR; intro h1; (first | (have e1 : _ = _ := h1) | skip); go_simp; rfl)) | ((first | (refine wpM_val0 Ext.refl rfl ?_) | (refine wpM_val1 Ext.refl rfl rfl ?_)); apply Exists.intro; refine ⟨?_, ?_⟩; · (intro a w' hR; go_simp; rfl)) | ((first | (refine wpM_val0 Ext.refl rfl ?_) | (refine wpM_val1 Ext.refl rfl rfl ?_)); apply Exists.intro; refine ⟨?_, ?_⟩; · (intro a w' hR; intro h1; (first | (have e1 : _ = _ := h1) | skip); intro h2; (first | (have e2 : _ = _ := h2) | skip); intro h3; (first | (have e3 : _ = _ := h3) | skip); go_simp; rfl)) | (refine wpM_skip1 rfl ?_))
      (first | (refine wpM_val0 Ext.refl rfl ?_) | (refine wpM_val1 Ext.refl rfl rfl ?_)); apply Exists.intro; refine ⟨?_, ?_⟩
      · intro a w' hR h1
        have e1 : _ = _ := h1
        have hs := strB (H1.out.ext hR)
        go_simp
        rfl
      repeat (first | ((first | (refine wpM_move00 Ext.refl rfl rfl rfl ?_) | (refine wpM_move01 Ext.refl rfl rfl rfl rfl ?_)); apply Exists.intro; refine ⟨?_, ?_⟩; · (go_simp; rfl)) | (first | (refine wpM_movek0 Ext.refl rfl rfl rfl ?_) | (refine wpM_movek1 Ext.refl rfl rfl rfl rfl ?_)) | ((first | (refine wpM_val0 Ext.refl rfl ?_) | (refine wpM_val1 Ext.refl rfl rfl ?_)); apply Exists.intro; refine ⟨?_, ?_⟩; · (intro a w' hR; intro h1; (first | (have e1 : _ = _ := h1) | skip); intro h2; (first | (have e2 : _ = _ := h2) | skip); go_simp; rfl)) | ((first | (refine wpM_val0 Ext.refl rfl ?_) | (refine wpM_val1 Ext.refl rfl rfl ?_)); apply Exists.intro; refine ⟨?_, ?_⟩; · (intro a w' hR; intro h1; (first | (have e1 : _ = _ := h1) | skip); go_simp; rfl)) | ((first | (refine wpM_val0 Ext.refl rfl ?_) | (refine wpM_val1 Ext.refl rfl rfl ?_)); apply Exists.intro; refine ⟨?_, ?_⟩; · (intro a w' hR; go_simp; rfl)) | ((first | (refine wpM_val0 Ext.refl rfl ?_) | (refine wpM_val1 Ext.refl rfl rfl ?_)); apply Exists.intro; refine ⟨?_, ?_⟩; · (intro a w' hR; intro h1; (first | (have e1 : _ = _ := h1) | skip); intro h2; (first | (have e2 : _ = _ := h2) | skip); intro h3; (first | (have e3 : _ = _ := h3) | skip); go_simp; rfl)) | (refine wpM_skip1 rfl ?_))
      (first | (refine wpM_val0 Ext.refl rfl ?_) | (refine wpM_val1 Ext.refl rfl rfl ?_)); apply Exists.intro; refine ⟨?_, ?_⟩
      · intro a w' hR h1
        have e1 : _ = _ := h1
        have hs := strB (H2.out.ext hR)
        go_simp
        rfl
      refine wpM_val0 Ext.refl rfl ?_; apply Exists.intro; refine ⟨?_, ?_⟩
      · intro a' w' hR h1 h2
        have e1 : _ = _ := h1
        have e2 : _ = _ := h2
        go_simp
        rw [HL.out]
        rfl
      repeat (first | ((first | (refine wpM_move00 Ext.refl rfl rfl rfl ?_) | (refine wpM_move01 Ext.refl rfl rfl rfl rfl ?_)); apply Exists.intro; refine ⟨?_, ?_⟩; · (go_simp; rfl)) | (first | (refine wpM_movek0 Ext.refl rfl rfl rfl ?_) | (refine wpM_movek1 Ext.refl rfl rfl rfl rfl ?_)) | ((first | (refine wpM_val0 Ext.refl rfl ?_) | (refine wpM_val1 Ext.refl rfl rfl ?_)); apply Exists.intro; refine ⟨?_, ?_⟩; · (intro a w' hR; intro h1; (first | (have e1 : _ = _ := h1) | skip); intro h2; (first | (have e2 : _ = _ := h2) | skip); go_simp; rfl)) | ((first | (refine wpM_val0 Ext.refl rfl ?_) | (refine wpM_val1 Ext.refl rfl rfl ?_)); apply Exists.intro; refine ⟨?_, ?_⟩; · (intro a w' hR; intro h1; (first | (have e1 : _ = _ := h1) | skip); go_simp; rfl)) | ((first | (refine wpM_val0 Ext.refl rfl ?_) | (refine wpM_val1 Ext.refl rfl rfl ?_)); apply Exists.intro; refine ⟨?_, ?_⟩; · (intro a w' hR; go_simp; rfl)) | ((first | (refine wpM_val0 Ext.refl rfl ?_) | (refine wpM_val1 Ext.refl rfl rfl ?_)); apply Exists.intro; refine ⟨?_, ?_⟩; · (intro a w' hR; intro h1; (first | (have e1 : _ = _ := h1) | skip); intro h2; (first | (have e2 : _ = _ := h2) | skip); intro h3; (first | (have e3 : _ = _ := h3) | skip); go_simp; rfl)) | (refine wpM_skip1 rfl ?_))
      (first | (refine wpM_val0 Ext.refl rfl ?_) | (refine wpM_val1 Ext.refl rfl rfl ?_)); apply Exists.intro; refine ⟨?_, ?_⟩
      · intro a w' hR h1
        have e1 : _ = _ := h1
        have hs := strB (H3.out.ext hR)
        go_simp
        rfl
      repeat (first | ((first | (refine wpM_move00 Ext.refl rfl rfl rfl ?_) | (refine wpM_move01 Ext.refl rfl rfl rfl rfl ?_)); apply Exists.intro; refine ⟨?_, ?_⟩; · (go_simp; rfl)) | (first | (refine wpM_movek0 Ext.refl rfl rfl rfl ?_) | (refine wpM_movek1 Ext.refl rfl rfl rfl rfl ?_)) | ((first | (refine wpM_val0 Ext.refl rfl ?_) | (refine wpM_val1 Ext.refl rfl rfl ?_)); apply Exists.intro; refine ⟨?_, ?_⟩; · (intro a w' hR; intro h1; (first | (have e1 : _ = _ := h1) | skip); intro h2; (first | (have e2 : _ = _ := h2) | skip); go_simp; rfl)) | ((first | (refine wpM_val0 Ext.refl rfl ?_) | (refine wpM_val1 Ext.refl rfl rfl ?_)); apply Exists.intro; refine ⟨?_, ?_⟩; · (intro a w' hR; intro h1; (first | (have e1 : _ = _ := h1) | skip); go_simp; rfl)) | ((first | (refine wpM_val0 Ext.refl rfl ?_) | (refine wpM_val1 Ext.refl rfl rfl ?_)); apply Exists.intro; refine ⟨?_, ?_⟩; · (intro a w' hR; go_simp; rfl)) | ((first | (refine wpM_val0 Ext.refl rfl ?_) | (refine wpM_val1 Ext.refl rfl rfl ?_)); apply Exists.intro; refine ⟨?_, ?_⟩; · (intro a w' hR; intro h1; (first | (have e1 : _ = _ := h1) | skip); intro h2; (first | (have e2 : _ = _ := h2) | skip); intro h3; (first | (have e3 : _ = _ := h3) | skip); go_simp; rfl)) | (refine wpM_skip1 rfl ?_))
      (first | (refine wpM_val0 Ext.refl rfl ?_) | (refine wpM_val1 Ext.refl rfl rfl ?_)); apply Exists.intro; refine ⟨?_, ?_⟩
      · intro a w' hR h1
        have e1 : _ = _ := h1
        have hs := strB (H1.out.ext hR)
        go_simp
        rfl
      refine wpM_val1 Ext.refl rfl rfl ?_; apply Exists.intro; refine ⟨?_, ?_⟩
      · intro a' w' hR h1 h2
        have e1 : _ = _ := h1
        have e2 : _ = _ := h2
        go_simp
        rw [HQ2.out]
        rfl
      repeat (first | ((first | (refine wpM_move00 Ext.refl rfl rfl rfl ?_) | (refine wpM_move01 Ext.refl rfl rfl rfl rfl ?_)); apply Exists.intro; refine ⟨?_, ?_⟩; · (go_simp; rfl)) | (first | (refine wpM_movek0 Ext.refl rfl rfl rfl ?_) | (refine wpM_movek1 Ext.refl rfl rfl rfl rfl ?_)) | ((first | (refine wpM_val0 Ext.refl rfl ?_) | (refine wpM_val1 Ext.refl rfl rfl ?_)); apply Exists.intro; refine ⟨?_, ?_⟩; · (intro a w' hR; intro h1; (first | (have e1 : _ = _ := h1) | skip); intro h2; (first | (have e2 : _ = _ := h2) | skip); go_simp; rfl)) | ((first | (refine wpM_val0 Ext.refl rfl ?_) | (refine wpM_val1 Ext.refl rfl rfl ?_)); apply Exists.intro; refine ⟨?_, ?_⟩; · (intro a w' hR; intro h1; (first | (have e1 : _ = _ := h1) | skip); go_simp; rfl)) | ((first | (refine wpM_val0 Ext.refl rfl ?_) | (refine wpM_val1 Ext.refl rfl rfl ?_)); apply Exists.intro; refine ⟨?_, ?_⟩; · (intro a w' hR; go_simp; rfl)) | ((first | (refine wpM_val0 Ext.refl rfl ?_) | (refine wpM_val1 Ext.refl rfl rfl ?_)); apply Exists.intro; refine ⟨?_, ?_⟩; · (intro a w' hR; intro h1; (first | (have e1 : _ = _ := h1) | skip); intro h2; (first | (have e2 : _ = _ := h2) | skip); intro h3; (first | (have e3 : _ = _ := h3) | skip); go_simp; rfl)) | (refine wpM_skip1 rfl ?_))
      refine wpM_done ?_
      intro w4 hx4
      iterate 32 (rintro _ rfl)
      dsimp only [FinV]
      go_simp
      go_wp2
      go_ret
      exact ⟨rfl, ((he1.trans he2).trans he3).trans hx4⟩
end Go.Proofs.Ytgojbgjfnjeglaa
