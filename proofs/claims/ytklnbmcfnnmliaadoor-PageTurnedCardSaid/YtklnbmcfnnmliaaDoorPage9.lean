/-
  The statements' own functions of layer 6: a turned page.
-/
import Derived.Test.YtklnbmcfnnmliaaDoorPage6
import Derived.StillTailTactics
import Derived.IntWalk
namespace Go.Proofs.YtklnbmcfnnmliaaDoor
open Go.RowKit Go.Ox
attribute [local irreducible] OB RB

theorem pow_n8P (r : Nat) (h : r < 8) : (2 : Int) ^ r % 256 = n8 (UInt8.ofNat (2 ^ r)) := by
  have hp : 2 ^ r < 256 := by
    have := Nat.pow_lt_pow_right (a := 2) (by omega) h
    omega
  rw [n8_of hp]
  have : (2 : Int) ^ r = ((2 ^ r : Nat) : Int) := by simp
  rw [this]
  generalize 2 ^ r = x at hp
  omega

set_option maxRecDepth 100000 in
set_option maxHeartbeats 1000000 in
theorem turned_1 (W : World) (hh : Halves W) (x0 : Int) (v1 : Value) (x1 : List UInt8) (b1 : RB W v1 x1) (x2 : Int) (x3 : Int) (h1 : 43 < x1.length) :
    Calls Tryd.prog 6 #[.int .i64 x0, v1, .int .i64 x2, .int .u32 x3] W fun e w' => e = .returned (.bool true) ∧ Ext W w' := by
  obtain ⟨A1, c1, rfl⟩ := b1.form
  have HV := Lib.hid (fun (w : World) (he : Ext W w) => plives_any w (hh.ext he))
  have g1 : (43 : Int) < (x1.length : Int) := by omega
  clear hh b1 h1
  go_enter Tryd.func6, Tryd.ntmps6
  go_wp2_with (go_at_call 7; refine (HV.out _ (Ext.refl _)).mono ?_; rintro e w1 ⟨rfl, he1⟩)
  go_ret
  exact ⟨rfl, he1⟩
set_option maxRecDepth 100000 in
set_option maxHeartbeats 1000000 in
theorem turned_2 (W : World) (hh : Halves W) (x0 : Int) (v1 : Value) (x1 : List UInt8) (b1 : RB W v1 x1) (x2 : Int) (x3 : Int) (h1 : ¬ 43 < x1.length) (hx0 : ¬ TagMay x0) :
    Calls Tryd.prog 6 #[.int .i64 x0, v1, .int .i64 x2, .int .u32 x3] W fun e w' => e = .returned (.bool true) ∧ Ext W w' := by
  obtain ⟨A1, c1, rfl⟩ := b1.form
  have HV := Lib.hid (fun (w : World) (he : Ext W w) => plives_any w (hh.ext he))
  have g1 : ¬ (43 : Int) < (x1.length : Int) := by omega
  have d1 : decide ((43 : Int) < (x1.length : Int)) = false := decide_eq_false g1
  have Hx0 := Lib.hid (fun w => rmay_no x0 w hx0)
  clear hx0
  clear hh b1 h1
  go_enter Tryd.func6, Tryd.ntmps6
  go_wp2_with (first
    | (go_at_call 9; (with_reducible refine (Hx0.out _).mono ?_); rintro e w' ⟨rfl, rfl⟩)
    | (go_at_call 7; refine (HV.out _ (Ext.refl _)).mono ?_; rintro e w1 ⟨rfl, he1⟩))
  go_ret
  exact ⟨rfl, he1⟩
set_option maxRecDepth 100000 in
set_option maxHeartbeats 1000000 in
theorem turned_3 (W : World) (hh : Halves W) (x0 : Int) (v1 : Value) (x1 : List UInt8) (b1 : RB W v1 x1) (x2 : Int) (x3 : Int) (h1 : ¬ 43 < x1.length) (hx0 : TagMay x0) (h4 : x2 < 0) :
    Calls Tryd.prog 6 #[.int .i64 x0, v1, .int .i64 x2, .int .u32 x3] W fun e w' => e = .returned (.bool true) ∧ Ext W w' := by
  obtain ⟨A1, c1, rfl⟩ := b1.form
  have HV := Lib.hid (fun (w : World) (he : Ext W w) => plives_any w (hh.ext he))
  have g1 : ¬ (43 : Int) < (x1.length : Int) := by omega
  have d1 : decide ((43 : Int) < (x1.length : Int)) = false := decide_eq_false g1
  have Hx0 := Lib.hid (fun w => rmay_yes x0 w hx0)
  clear hx0
  have d4 : decide (x2 < 0) = true := decide_eq_true h4
  clear hh b1 h1
  go_enter Tryd.func6, Tryd.ntmps6
  go_wp2_with (first
    | (go_at_call 9; (with_reducible refine (Hx0.out _).mono ?_); rintro e w' ⟨rfl, rfl⟩)
    | (go_at_call 7; refine (HV.out _ (Ext.refl _)).mono ?_; rintro e w1 ⟨rfl, he1⟩))
  go_ret
  exact ⟨rfl, he1⟩
set_option maxRecDepth 100000 in
set_option maxHeartbeats 1000000 in
theorem turned_4 (W : World) (hh : Halves W) (x0 : Int) (v1 : Value) (x1 : List UInt8) (b1 : RB W v1 x1) (x2 : Int) (x3 : Int) (h1 : ¬ 43 < x1.length) (hx0 : TagMay x0) (h4 : ¬ x2 < 0) (h5 : 480 < x2) :
    Calls Tryd.prog 6 #[.int .i64 x0, v1, .int .i64 x2, .int .u32 x3] W fun e w' => e = .returned (.bool true) ∧ Ext W w' := by
  obtain ⟨A1, c1, rfl⟩ := b1.form
  have HV := Lib.hid (fun (w : World) (he : Ext W w) => plives_any w (hh.ext he))
  have g1 : ¬ (43 : Int) < (x1.length : Int) := by omega
  have d1 : decide ((43 : Int) < (x1.length : Int)) = false := decide_eq_false g1
  have Hx0 := Lib.hid (fun w => rmay_yes x0 w hx0)
  clear hx0
  have d4 : decide (x2 < 0) = false := decide_eq_false h4
  have d5 : decide (480 < x2) = true := decide_eq_true h5
  clear hh b1 h1
  go_enter Tryd.func6, Tryd.ntmps6
  go_wp2_with (first
    | (go_at_call 9; (with_reducible refine (Hx0.out _).mono ?_); rintro e w' ⟨rfl, rfl⟩)
    | (go_at_call 7; refine (HV.out _ (Ext.refl _)).mono ?_; rintro e w1 ⟨rfl, he1⟩))
  go_ret
  exact ⟨rfl, he1⟩
set_option maxRecDepth 100000 in
set_option maxHeartbeats 1000000 in
theorem turned_5 (W : World) (hh : Halves W) (x0 : Int) (v1 : Value) (x1 : List UInt8) (b1 : RB W v1 x1) (x2 : Int) (x3 : Int) (h1 : ¬ 43 < x1.length) (hx0 : TagMay x0) (h4 : ¬ x2 < 0) (h5 : ¬ 480 < x2) (h6 : x3 = 0) :
    Calls Tryd.prog 6 #[.int .i64 x0, v1, .int .i64 x2, .int .u32 x3] W fun e w' => e = .returned (.bool true) ∧ Ext W w' := by
  obtain ⟨A1, c1, rfl⟩ := b1.form
  have HV := Lib.hid (fun (w : World) (he : Ext W w) => plives_any w (hh.ext he))
  have g1 : ¬ (43 : Int) < (x1.length : Int) := by omega
  have d1 : decide ((43 : Int) < (x1.length : Int)) = false := decide_eq_false g1
  have Hx0 := Lib.hid (fun w => rmay_yes x0 w hx0)
  clear hx0
  have d4 : decide (x2 < 0) = false := decide_eq_false h4
  have d5 : decide (480 < x2) = false := decide_eq_false h5
  subst h6
  clear hh b1 h1
  go_enter Tryd.func6, Tryd.ntmps6
  go_wp2_with (first
    | (go_at_call 9; (with_reducible refine (Hx0.out _).mono ?_); rintro e w' ⟨rfl, rfl⟩)
    | (go_at_call 7; refine (HV.out _ (Ext.refl _)).mono ?_; rintro e w1 ⟨rfl, he1⟩))
  go_ret
  exact ⟨rfl, he1⟩

theorem err_two {x : Int} (h : x = 0 ∨ x = 20 ∨ x = 60) (h2 : x ≠ 0) : x = 20 ∨ x = 60 := by omega
set_option maxRecDepth 100000 in
set_option maxHeartbeats 2000000 in
theorem turned_yes (W : World) (hh : Halves W) (n p : Nat) (v1 : Value) (x1 : List UInt8) (b1 : RB W v1 x1) (s : Crc.W32) (hl1 : x1.length ≤ 43) (hm : TagMay n) (hp : p ≤ 480) (hs0 : s ≠ 0#32) :
    Calls Tryd.prog 6 #[.int .i64 (n : Int), v1, .int .i64 (p : Int), .int .u32 (n32 s)] W fun e w' => e = .returned (.bool true) ∧ Ext W w' := by
  obtain ⟨A1, c1, rfl⟩ := b1.form
  have HV := Lib.hid (fun (w : World) (he : Ext W w) => plives_any w (hh.ext he))
  have HH := Lib.hid hh
  have HPX := Lib.hid (pput_any n _ x1 W hh hm b1 hl1)
  have HSL := Lib.hid (pageP_len n hl1)
  have HTU := Lib.hid (getL_turned (n := n) (p := p) hl1 hp hs0)
  have HM := Lib.hid (fun w => rmay_yes n w hm)
  have d1 : decide ((43 : Int) < (x1.length : Int)) = false := decide_eq_false (by omega)
  have g1 : ¬ (43 : Int) < (x1.length : Int) := by omega
  have d4 : decide ((p : Int) < 0) = false := decide_eq_false (by omega)
  have d5 : decide (480 < (p : Int)) = false := decide_eq_false (by omega)
  have d6 : (n32 s == 0) = false := by
    simp only [beq_eq_false_iff_ne]
    intro h
    exact hs0 (n32_inj (h.trans (by unfold n32; rfl)))
  clear hm hl1 hh b1 hs0
  generalize pageP n x1 = S at *
  go_enter Tryd.func6, Tryd.ntmps6
  go_upto_region 4 with (first
    | (go_at_call 9; (with_reducible refine (HM.out _).mono ?_); rintro e w' ⟨rfl, rfl⟩)
    | (go_at_call 8; refine HPX.out.mono ?_; rintro e w1 ⟨u1, rfl, ho1, he1⟩; obtain ⟨g, c3, hfx, hg⟩ := ho1.at0 (by rw [HSL.out]; decide); rw [HSL.out] at hfx; subst hfx; have HO1 := Lib.hid ho1; have HE1 := Lib.hid he1; clear ho1 he1))
  go_upto_region 6 with (go_at_call 7; refine (HV.out _ HE1.out).mono ?_; rintro e w2 ⟨rfl, he2⟩; have HE2 := Lib.hid (HE1.out.trans he2); have HO2 := Lib.hid (HO1.out.ext he2); clear he2)
  go_wp2
  go_loopw [11] (fun i wr => ∃ k : Nat, k ≤ 32 ∧ i = .int .i64 k ∧ OB 5 W.heap.size wr (.slice (some ⟨g, 0, none⟩) 64 c3) (Crc.flips S p s k) ∧ Ext W wr) (fun i _ => 32 - (intOf i).toNat)
  case atStart => exact ⟨0, by omega, rfl, HO2.out, HE2.out⟩
  case round =>
    obtain ⟨k, hk, rfl, hown, hext⟩ := hrel
    have HOW := Lib.hid hown
    clear hown
    by_cases hlt : k < 32
    · have hfl := Crc.flips_len S p s k
      rw [HSL.out] at hfl
      have h0 := n32_lo s
      have h1 := n32_hi s
      have hk0 : (0 : Int) ≤ (k : Int) := by omega
      have hk1 : (k : Int) < 32 := by omega
      cases hb : s.getLsbD k with
      | true =>
        have hbit := shrk_one hb
        have hf : Crc.flips S p s (k + 1) = Crc.flip1 (Crc.flips S p s k) (p + k) := by rw [Crc.flips, if_pos hb]
        have HF := Lib.hid hf
        clear hf hb
        obtain ⟨q, hq⟩ : ∃ q, q = p + k := ⟨_, rfl⟩
        rw [← hq] at HF
        have e1 : IntKind.i64.wrap ((p : Int) + (k : Int)) = (q : Int) := by rw [IntWalk.i64_in _ (by omega)]; omega
        have e2 : IntKind.i64.wrap ((q : Int).tdiv 8) = ((q / 8 : Nat) : Int) := by
          rw [Int.tdiv_eq_ediv_of_nonneg (by omega), IntWalk.i64_in _ (by omega)]; omega
        have e3 : (q : Int).tmod 8 = ((q % 8 : Nat) : Int) := by
          rw [Int.tmod_eq_emod_of_nonneg (by omega)]; omega
        have e2b : IntKind.i64.wrap ((q : Int) / 8) = ((q / 8 : Nat) : Int) := by rw [IntWalk.i64_in _ (by omega)]; omega
        have e3b : (q : Int) % 8 = ((q % 8 : Nat) : Int) := by omega
        have e4 : IntKind.i64.wrap ((q % 8 : Nat) : Int) = ((q % 8 : Nat) : Int) := IntWalk.i64_in _ (by omega)
        obtain ⟨hc3, hf3, hg3⟩ := HOW.out.atD (j := q / 8) (by omega)
        obtain ⟨m, hm⟩ : ∃ m, m = q / 8 := ⟨_, rfl⟩
        obtain ⟨r, hr⟩ : ∃ r, r = q % 8 := ⟨_, rfl⟩
        rw [← hm] at e2 e2b
        rw [← hr] at e3 e4 e3b
        have hm1 : m < 64 := by omega
        have hr8 : r < 8 := by omega
        have hmI : (m : Int) < 64 := by omega
        have hmJ : (0 : Int) ≤ (m : Int) := by omega
        have hr0 : (0 : Int) ≤ (r : Int) := by omega
        have hr1 : (r : Int) < 8 := by omega
        have HMM := Lib.hid hm
        have HR := Lib.hid hr
        simp only [← hm] at hc3 hf3
        clear hq hm hr
        have hx := xor_n8
        have e5 : (2 : Int) ^ r % 256 = n8 (UInt8.ofNat (2 ^ r)) := pow_n8P r hr8
        obtain ⟨old, hold⟩ : ∃ o, o = (Crc.flips S p s k).getD m 0 := ⟨_, rfl⟩
        rw [← hold] at hc3
        have HOLD := Lib.hid hold
        clear hold
        go_wp2
        go_still_tail 19, (by kernel_rfl)
        change wpList _ _ _ _ _ wr.drew
        go_wp2
        go_roundw
        case rel =>
          refine ⟨k + 1, by omega, by go_num, ?_, (hext.setCell (p := ⟨g, m, none⟩) hg _).drew⟩
          rw [HF.out, Crc.flip1, ← HMM.out, ← HR.out, ← HOLD.out]
          exact (HOW.out.stored m _).ext (Ext.refl _).drew
        case measure => simp [intOf]; omega
      | false =>
        have hbit := shrk_nil hb
        have hf : Crc.flips S p s (k + 1) = Crc.flips S p s k := by rw [Crc.flips, if_neg (by rw [hb]; simp)]
        have HF := Lib.hid hf
        clear hf hb
        go_wp2
        go_roundw
        case rel => exact ⟨k + 1, by omega, by go_num, by rw [HF.out]; exact HOW.out, hext⟩
        case measure => simp [intOf]; omega
    · obtain rfl : k = 32 := by omega
      have hfl := Crc.flips_len S p s 32
      rw [HSL.out] at hfl
      have HFL := Lib.hid hfl
      have HER := Lib.hid (err_two (getL_err n (Crc.flips S p s 32)) HTU.out)
      clear hfl
      generalize Crc.flips S p s 32 = z at *
      go_upto_region 12 with (go_at_call 10; refine (pget_e n _ z (getL n z).1 (getL n z).2 _ (HH.out.ext hext) HOW.out.rb (by rw [HFL.out]; decide) rfl).mono ?_; rintro e w5 ⟨u5, rfl, ho5, he5⟩; obtain ⟨A5, c5, rfl⟩ := ho5.form; have HE5 := Lib.hid he5; clear ho5 he5)
      generalize hy : (getL n z).1 = y
      rw [hy] at HER
      clear hy HTU
      rcases HER.out with h20 | h20
      all_goals clear HER
      all_goals subst h20
      all_goals go_wp2
      all_goals go_ret
      all_goals exact ⟨rfl, hext.trans HE5.out⟩
theorem pageTurned_law (W : World) (hh : Halves W) (x0 : Int) (_b0 : -9223372036854775808 ≤ x0 ∧ x0 ≤ 9223372036854775807) (v1 : Value) (x1 : List UInt8) (b1 : RB W v1 x1) (x2 : Int) (_b2 : -9223372036854775808 ≤ x2 ∧ x2 ≤ 9223372036854775807) (x3 : Int) (b3 : 0 ≤ x3 ∧ x3 ≤ 4294967295) :
    Calls Tryd.prog 6 #[.int .i64 x0, v1, .int .i64 x2, .int .u32 x3] W fun e w' => e = .returned (.bool true) ∧ Ext W w' := by
  by_cases h1 : 43 < x1.length
  · exact turned_1 W hh x0 v1 x1 b1 x2 x3 h1
  by_cases h2 : TagMay x0
  · by_cases h3 : x2 < 0
    · exact turned_3 W hh x0 v1 x1 b1 x2 x3 h1 h2 h3
    by_cases h4 : 480 < x2
    · exact turned_4 W hh x0 v1 x1 b1 x2 x3 h1 h2 h3 h4
    by_cases h5 : x3 = 0
    · exact turned_5 W hh x0 v1 x1 b1 x2 x3 h1 h2 h3 h4 h5
    obtain ⟨n, rfl⟩ : ∃ n : Nat, x0 = n := ⟨x0.toNat, by have := h2.1; omega⟩
    obtain ⟨p, rfl⟩ : ∃ n : Nat, x2 = n := ⟨x2.toNat, by omega⟩
    have hs := u32_of x3 b3
    have := turned_yes W hh n p v1 x1 b1 (BitVec.ofNat 32 x3.toNat) (by omega) h2 (by omega) (fun h => h5 (by rw [← hs, h]; unfold n32; rfl))
    rwa [hs] at this
  · exact turned_2 W hh x0 v1 x1 b1 x2 x3 h1 h2
end Go.Proofs.YtklnbmcfnnmliaaDoor
