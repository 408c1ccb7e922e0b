/-
  Layer 12: RunFills, RunWide.
-/
import Derived.Test.YtbokblklldphgaaRunLaw1
import Derived.Test.YtbokblklldphgaaRunMath
namespace Go.Proofs.Ytbokblklldphgaa
open Go.RowKit Go.Ox Go.Shelf
attribute [local irreducible] OE RE RP OP
set_option linter.unusedVariables false
set_option linter.unusedSimpArgs false

set_option maxRecDepth 100000 in
set_option maxHeartbeats 4000000 in
theorem runFills_small (lim n : Int) (w : World) (h : lim < 1 ∨ 4096 < lim ∨ n < 0 ∨ 5000 < n ∨ (300 < n ∧ n < 4090)) :
    Calls Try.prog 3 #[.int .i64 lim, .int .i64 n] w fun e w' => e = .returned (.bool true) ∧ Ext w w' := by
  have HL := Lib.hid (fun w => lives_any w)
  by_cases h1 : lim < 1
  · clear h
    go_enter Try.func3, Try.ntmps3
    go_wp2_with fail
    refine (HL.out _).mono ?_
    rintro e w1 ⟨rfl, he1⟩
    go_wp2
    go_ret
    exact ⟨rfl, he1⟩
  by_cases h2 : 4096 < lim
  · clear h
    go_enter Try.func3, Try.ntmps3
    go_wp2_with fail
    refine (HL.out _).mono ?_
    rintro e w1 ⟨rfl, he1⟩
    go_wp2
    go_ret
    exact ⟨rfl, he1⟩
  by_cases h3 : n < 0
  · clear h
    go_enter Try.func3, Try.ntmps3
    go_wp2_with fail
    refine (HL.out _).mono ?_
    rintro e w1 ⟨rfl, he1⟩
    go_wp2
    go_ret
    exact ⟨rfl, he1⟩
  by_cases h4 : 5000 < n
  · clear h
    go_enter Try.func3, Try.ntmps3
    go_wp2_with fail
    refine (HL.out _).mono ?_
    rintro e w1 ⟨rfl, he1⟩
    go_wp2
    go_ret
    exact ⟨rfl, he1⟩
  have h5 : 300 < n := by omega
  have h6 : n < 4090 := by omega
  clear h
  go_enter Try.func3, Try.ntmps3
  go_wp2_with fail
  refine (HL.out _).mono ?_
  rintro e w1 ⟨rfl, he1⟩
  go_wp2
  go_ret
  exact ⟨rfl, he1⟩
set_option maxRecDepth 100000 in
set_option maxHeartbeats 4000000 in
theorem runFills_main (a N : Nat) (w : World) (ha : 1 ≤ a) (ha2 : a ≤ 4096) (hN : N ≤ 5000) (hN2 : N ≤ 300 ∨ 4090 ≤ N) :
    Calls Try.prog 3 #[.int .i64 (a : Int), .int .i64 (N : Int)] w fun e w' => e = .returned (.bool true) ∧ Ext w w' := by
  have HL := Lib.hid (fun w => lives_any w)
  have HAT := Lib.hid at_ent
  have HNEW := Lib.hid (fun w => new_ok (a : Int) w (by omega) (by omega))
  have HA1 := Lib.hid ha
  have HN := Lib.hid hN
  have HN2 := Lib.hid hN2
  have g1 : ¬ (a : Int) < 1 := by omega
  have g2 : ¬ (4096 : Int) < (a : Int) := by omega
  have g3 : ¬ (N : Int) < 0 := by omega
  have g4 : ¬ (5000 : Int) < (N : Int) := by omega
  have gg : (¬ (300 : Int) < (N : Int)) ∨ ((300 : Int) < (N : Int) ∧ ¬ (N : Int) < 4090) := by omega
  clear ha hN hN2 ha2
  go_enter Try.func3, Try.ntmps3
  go_upto_region 3 with fail
  rcases gg with gg | ⟨gg, gg2⟩
  all_goals
    go_wp2_with fail
    refine (HNEW.out _).mono ?_
    rintro e w1 ⟨rfl, hr1, hx1⟩
    obtain ⟨g, hg⟩ : ∃ g, g = w.heap.size := ⟨_, rfl⟩
    rw [← hg] at hr1 ⊢
    have HG := Lib.hid (Nat.le_of_eq hg.symm)
    clear hg
    have HR1 := Lib.hid hr1
    have HX1 := Lib.hid hx1
    clear hr1 hx1
    go_wp2_with fail
    refine (HL.out _).mono ?_
    rintro e w2 ⟨rfl, he2⟩
    have HR2 := Lib.hid (HR1.out.ext he2)
    have HX2 := Lib.hid (HX1.out.trans he2)
    clear he2 HR1 HX1
    go_wp2
    go_loopw [7] (fun iv wr => ∃ k m : Nat, k ≤ N ∧ ((k ≤ a ∧ m = k) ∨ (a ≤ k ∧ m = a)) ∧ iv = .int .i64 (k : Int) ∧ (∃ lv, RunI 59 wr g lv (Ent.fill m) a m) ∧ Ext w wr) (fun iv _ => N - (intOf iv).toNat)
    case atStart => exact ⟨0, 0, Nat.zero_le _, .inl ⟨Nat.zero_le _, rfl⟩, rfl, ⟨_, HR2.out⟩, HX2.out⟩
    case round =>
      obtain ⟨k, m, hk, hm, rfl, ⟨lv, hr⟩, hext⟩ := hrel
      have HR := Lib.hid hr
      have HE := Lib.hid hext
      have hk5 : k ≤ 5000 := by have := HN.out; omega
      clear hr hext
      by_cases hlt : k < N
      · have c1 : (k : Int) < (N : Int) := by omega
        have HLT := Lib.hid hlt
        have HK5 := Lib.hid hk5
        have HFA := Lib.hid (fun (h : k < a) => fill_add hk5 h)
        have HFF := Lib.hid (fun (h : a ≤ k) => fill_full hk5 h)
        clear hlt hk hk5
        by_cases hf : k < a
        · have c2 : ¬ (a : Int) ≤ (k : Int) := by omega
          obtain rfl : m = k := by omega
          have HF := Lib.hid (HFA.out hf)
          clear hf hm
          go_wp2_with fail
          refine (HAT.out _ _ _ _).mono ?_
          rintro e w5 ⟨rfl, he5⟩
          have HR5 := Lib.hid (HR.out.ext he5)
          have HE5 := Lib.hid (HE.out.trans he5)
          clear he5
          go_wp2_with fail
          refine (add_is (Ent.fl m) HR5.out HF.out.1 HF.out.2.1 HF.out.2.2).mono ?_
          rintro e w6 ⟨rfl, lv6, hr6, hn6, hx6⟩
          have HE6 := Lib.hid (run_ext HE5.out HR5.out HG.out hx6)
          have HR6 := Lib.hid hr6
          clear hr6 hn6 hx6
          go_wp2
          exact ⟨⟨m + 1, m + 1, HLT.out, by omega, by go_num, ⟨_, HR6.out⟩, HE6.out⟩, by have := HLT.out; simp [intOf]; omega⟩
        · have c2 : (a : Int) ≤ (k : Int) := by omega
          obtain rfl : m = a := by omega
          have HF := Lib.hid (HFF.out (by omega))
          have HKM := Lib.hid (show m ≤ k by omega)
          clear hf hm
          go_wp2_with fail
          refine (HAT.out _ _ _ _).mono ?_
          rintro e w5 ⟨rfl, he5⟩
          have HR5 := Lib.hid (HR.out.ext he5)
          have HE5 := Lib.hid (HE.out.trans he5)
          clear he5
          go_wp2_with fail
          refine (add_is (Ent.fl k) HR5.out HF.out.1 HF.out.2.1 HF.out.2.2).mono ?_
          rintro e w6 ⟨rfl, lv6, hr6, hn6, hx6⟩
          have HE6 := Lib.hid (run_ext HE5.out HR5.out HG.out hx6)
          have HR6 := Lib.hid hr6
          clear hr6 hn6 hx6
          go_wp2
          exact ⟨⟨k + 1, m, HLT.out, .inr ⟨by have := HKM.out; omega, rfl⟩, by go_num, ⟨_, HR6.out⟩, HE6.out⟩, by have := HLT.out; simp [intOf]; omega⟩
      · obtain rfl : k = N := by omega
        have c1 : ¬ (k : Int) < (k : Int) := by omega
        have HFS := Lib.hid (all_is HR.out (Ent.fill_srt m))
        have hmv : (k ≤ a ∧ m = k ∧ ¬ (a : Int) < (k : Int)) ∨ (m = a ∧ (a : Int) < (k : Int)) := by omega
        clear hk hlt hm
        rcases hmv with ⟨q1, rfl, q2⟩ | ⟨rfl, q2⟩
        all_goals
          try clear q1
          rcases Nat.eq_zero_or_pos m with hm0 | hm0
          · subst hm0
            go_wp2_with fail
            all_goals
              refine (runFront_any HR.out).mono ?_
              rintro e w5 ⟨uf, rfl, hf5, he5⟩
              obtain ⟨A5, c5, rfl⟩ := (OE.re (OP.oe hf5)).form
              have HR5 := Lib.hid (HR.out.ext he5)
              have HE5 := Lib.hid (HE.out.trans he5)
              clear hf5 he5
              go_wp2_with fail
              refine (len_any HR5.out).mono ?_
              rintro e w' ⟨rfl, rfl⟩
              go_wp2_with fail
              refine (most_any HR5.out).mono ?_
              rintro e w' ⟨rfl, rfl⟩
              go_wp2_with fail
              refine (all_is HR5.out (Ent.fill_srt 0)).mono ?_
              rintro e w6 ⟨ua, rfl, ha6, he6⟩
              obtain ⟨A6, c6, rfl⟩ := ha6.re.form
              have HE6 := Lib.hid (HE5.out.trans he6)
              clear ha6 he6
              go_wp2
              go_ret
              exact ⟨rfl, HE6.out⟩
          · have hfr := Ent.fill_frt hm0
            have hlen := Ent.fill_len m
            go_wp2_with fail
            refine (front_is HR.out hfr).mono ?_
            rintro e w5 ⟨uf, rfl, hf5, he5⟩
            obtain ⟨A5, c5, rfl⟩ := (OE.re (OP.oe hf5)).form
            have HR5 := Lib.hid (HR.out.ext he5)
            have HE5 := Lib.hid (HE.out.trans he5)
            clear hf5 he5
            go_wp2_with fail
            refine (len_any HR5.out).mono ?_
            rintro e w' ⟨rfl, rfl⟩
            rw [hlen]
            go_wp2_with fail
            refine (most_any HR5.out).mono ?_
            rintro e w' ⟨rfl, rfl⟩
            go_wp2_with fail
            refine (all_is HR5.out (Ent.fill_srt m)).mono ?_
            rintro e w6 ⟨ua, rfl, ha6, he6⟩
            obtain ⟨A6, c6, hv6⟩ := ha6.re.form
            rw [hlen] at hv6
            subst hv6
            have HE6 := Lib.hid (HE5.out.trans he6)
            have hm1 : ¬ (m : Int) = 0 := by omega
            clear ha6 he6 hlen hm0 hfr
            go_wp2
            all_goals
              go_ret
              exact ⟨rfl, HE6.out⟩
theorem runFills_row (lim n : Int) (w : World) :
    Calls Try.prog 3 #[.int .i64 lim, .int .i64 n] w fun e w' => e = .returned (.bool true) ∧ Ext w w' := by
  by_cases h : lim < 1 ∨ 4096 < lim ∨ n < 0 ∨ 5000 < n ∨ (300 < n ∧ n < 4090)
  · exact runFills_small lim n w h
  · obtain ⟨a, rfl⟩ : ∃ a : Nat, lim = a := ⟨lim.toNat, by omega⟩
    obtain ⟨N, rfl⟩ : ∃ N : Nat, n = N := ⟨n.toNat, by omega⟩
    exact runFills_main a N w (by omega) (by omega) (by omega) (by omega)
set_option maxRecDepth 100000 in
set_option maxHeartbeats 4000000 in
theorem runWide_row (n : Int) (w : World) :
    Calls Try.prog 4 #[.int .i64 n] w fun e w' => e = .returned (.bool true) ∧ Ext w w' := by
  have HL := Lib.hid (fun w => lives_any w)
  by_cases h1 : n < 0
  · skip
    go_enter Try.func4, Try.ntmps4
    go_wp2_with fail
    refine (HL.out _).mono ?_
    rintro e w1 ⟨rfl, he1⟩
    go_wp2
    go_ret
    exact ⟨rfl, he1⟩
  by_cases h2 : 400 < n
  · skip
    go_enter Try.func4, Try.ntmps4
    go_wp2_with fail
    refine (HL.out _).mono ?_
    rintro e w1 ⟨rfl, he1⟩
    go_wp2
    go_ret
    exact ⟨rfl, he1⟩
  obtain ⟨N, rfl⟩ : ∃ N : Nat, n = N := ⟨n.toNat, by omega⟩
  have HAT := Lib.hid at_ent
  have HNEW := Lib.hid (fun w => new_ok 1000 w (by omega) (by omega))
  have HN := Lib.hid (show N ≤ 400 by omega)
  go_enter Try.func4, Try.ntmps4
  go_wp2_with fail
  refine (HNEW.out _).mono ?_
  rintro e w1 ⟨rfl, hr1, hx1⟩
  obtain ⟨g, hg⟩ : ∃ g, g = w.heap.size := ⟨_, rfl⟩
  rw [← hg] at hr1 ⊢
  have HG := Lib.hid (Nat.le_of_eq hg.symm)
  clear hg
  have HR1 := Lib.hid hr1
  have HX1 := Lib.hid hx1
  clear hr1 hx1
  go_wp2_with fail
  refine (HL.out _).mono ?_
  rintro e w2 ⟨rfl, he2⟩
  have HR2 := Lib.hid (HR1.out.ext he2)
  have HX2 := Lib.hid (HX1.out.trans he2)
  clear he2 HR1 HX1
  go_wp2
  go_loopw [5] (fun iv wr => ∃ k : Nat, k ≤ N ∧ iv = .int .i64 (k : Int) ∧ (∃ lv b, RunI 59 wr g lv (Ent.wide k) 1000 b) ∧ Ext w wr) (fun iv _ => N - (intOf iv).toNat)
  case atStart => exact ⟨0, Nat.zero_le _, rfl, ⟨_, _, HR2.out⟩, HX2.out⟩
  case round =>
    obtain ⟨k, hk, rfl, ⟨lv, b, hr⟩, hext⟩ := hrel
    have HR := Lib.hid hr
    have HE := Lib.hid hext
    have hk4 : k ≤ 400 := by have := HN.out; omega
    clear hr hext
    by_cases hlt : k < N
    · have c1 : (k : Int) < (N : Int) := by omega
      have HLT := Lib.hid hlt
      have HF := Lib.hid (wide_add (b := b) (show k < 1000 by omega))
      have hw1 : IntKind.i64.wrap (1000 - (k : Int)) = 1000 - (k : Int) := IntWalk.i64_in _ (by omega)
      clear hlt hk
      go_wp2_with fail
      refine (HAT.out _ _ _ _).mono ?_
      rintro e w5 ⟨rfl, he5⟩
      have HR5 := Lib.hid (HR.out.ext he5)
      have HE5 := Lib.hid (HE.out.trans he5)
      clear he5
      go_wp2_with fail
      refine (add_is (Ent.wd k) HR5.out HF.out.1 HF.out.2 rfl).mono ?_
      rintro e w6 ⟨rfl, lv6, hr6, hn6, hx6⟩
      have HE6 := Lib.hid (run_ext HE5.out HR5.out HG.out hx6)
      have HR6 := Lib.hid hr6
      clear hr6 hn6 hx6
      go_wp2
      exact ⟨⟨k + 1, HLT.out, by go_num, ⟨_, _, HR6.out⟩, HE6.out⟩, by have := HLT.out; simp [intOf]; omega⟩
    · obtain rfl : k = N := by omega
      have c1 : ¬ (k : Int) < (k : Int) := by omega
      have HFL := Lib.hid (Ent.wide_frt_len k)
      have HFA := Lib.hid (fun i h => @Ent.wide_at k i h)
      have hc : (k ≤ 256 ∧ ¬ (256 : Int) < (k : Int)) ∨ (256 < k ∧ (256 : Int) < (k : Int)) := by omega
      clear hk hlt
      obtain ⟨f, hf⟩ : ∃ f, f = Ent.frt (Ent.wide k) := ⟨_, rfl⟩
      have HFR := Lib.hid (front_is HR.out hf.symm)
      rw [← hf] at HFL
      have HFA2 := Lib.hid (show ∀ (i : Nat) (h : i < f.length), f[i] = ((i : Int), 1000 - (i : Int)) by subst hf; exact HFA.out)
      clear hf HFA
      rcases hc with ⟨q1, q2⟩ | ⟨q1, q2⟩
      all_goals
        have HMN := Lib.hid (show f.length = min 256 k from HFL.out)
        have HFB := Lib.hid (show f.length ≤ 256 by rw [HFL.out]; omega)
        have HQ := Lib.hid q1
        clear q1
        go_wp2_with fail
        refine HFR.out.mono ?_
        rintro e w5 ⟨uf, rfl, hf5, he5⟩
        have HF5 := Lib.hid (OE.re (OP.oe hf5))
        obtain ⟨A5, c5, rfl⟩ := HF5.out.form
        have HE5 := Lib.hid (HE.out.trans he5)
        clear hf5 he5
        go_wp2
        go_loopw [8] (fun iv wr => ∃ j : Nat, j ≤ f.length ∧ iv = .int .i64 (j : Int) ∧ Ext w5 wr) (fun iv _ => f.length - (intOf iv).toNat)
        case atStart => exact ⟨0, Nat.zero_le _, rfl, Ext.refl _⟩
        case round =>
          obtain ⟨j, hj, rfl, hext⟩ := hrel
          have HE6 := Lib.hid hext
          have hjb : j ≤ 256 := by have := HFB.out; omega
          by_cases hlt : j < f.length
          · have c3 : (j : Int) < (f.length : Int) := by omega
            have c4 : 0 ≤ (j : Int) := by omega
            have HLT := Lib.hid hlt
            obtain ⟨bA, oA, rfl, d0, d1⟩ := RP.at_ (HF5.out.ext hext).rp hlt
            rw [HFA2.out j hlt] at d0 d1
            dsimp only at d0 d1
            have hw1 : IntKind.i64.wrap (1000 - (j : Int)) = 1000 - (j : Int) := IntWalk.i64_in _ (by omega)
            clear hext hj hlt
            go_wp2
            exact ⟨⟨j + 1, HLT.out, by go_num, HE6.out⟩, by have := HLT.out; simp [intOf]; omega⟩
          · obtain rfl : j = f.length := by omega
            have c3 : ¬ (f.length : Int) < (f.length : Int) := by omega
            have hfl : (f.length : Int) = ((min 256 k : Nat) : Int) := by rw [HMN.out]
            clear hext hj hlt
            go_wp2
            go_ret
            refine ⟨?_, HE5.out.trans HE6.out⟩
            have := HQ.out
            simp
            omega
end Go.Proofs.Ytbokblklldphgaa
