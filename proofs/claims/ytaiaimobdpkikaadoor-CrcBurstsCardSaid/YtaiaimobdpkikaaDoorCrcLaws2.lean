/-
  The statements' own functions of layer 2: joins, zeros, parts.
-/
import Derived.Test.YtaiaimobdpkikaaDoorCrcLaws
import Derived.OpenShut
namespace Go.Proofs.YtaiaimobdpkikaaDoor
open Go.RowKit Go.Ox
attribute [local irreducible] OB RB

theorem joined (a b : List UInt8) : (if b.length = 0 then Crc.sum a else Crc.Tn (8 * b.length) (Crc.sum a) ^^^ Crc.sum b) = Crc.sum (a ++ b) := by
  split
  · rename_i h; rw [List.eq_nil_of_length_eq_zero h, List.append_nil]
  · exact Crc.sum_join a b

/-- both Zeros, at any number up to 3000 -/
theorem zeros_pair (s : Crc.W32) (n : Int) (hn : n ≤ 3000) : ∃ z : Crc.W32,
    (∀ w, Calls Tryd.prog 19 #[.int .u32 (n32 s), .int .i64 n] w fun e w' => e = .returned (.int .u32 (n32 z)) ∧ Ext w w') ∧
    (∀ w, Calls Tryd.prog 20 #[.int .u32 (n32 s), .int .i64 n] w fun e w' => e = .returned (.int .u32 (n32 z)) ∧ Ext w w') := by
  by_cases h : n < 1
  · exact ⟨s, fun w => (zeros_neg s n w h).mono fun e w' ⟨h1, h2⟩ => ⟨h1, h2 ▸ Ext.refl _⟩, fun w => (rzeros_neg s n w h).mono fun e w' ⟨h1, h2⟩ => ⟨h1, h2 ▸ Ext.refl _⟩⟩
  · obtain ⟨m, rfl⟩ : ∃ m : Nat, n = m := ⟨n.toNat, by omega⟩
    exact ⟨_, fun w => zeros_any s m w (by omega), fun w => rzeros_any s m w (by omega)⟩

set_option maxRecDepth 100000 in
set_option maxHeartbeats 1000000 in
theorem crcJoins_law (W : World) (hh : Halves W) (v0 : Value) (x0 : List UInt8) (b0 : RB W v0 x0) (v1 : Value) (x1 : List UInt8) (b1 : RB W v1 x1) (x2 : Int) (_b2 : -9223372036854775808 ≤ x2 ∧ x2 ≤ 9223372036854775807) :
    Calls Tryd.prog 4 #[v0, v1, .int .i64 x2] W fun e w' => e = .returned (.bool true) ∧ Ext W w' := by
  obtain ⟨A, c, rfl⟩ := b0.form
  obtain ⟨A', c', rfl⟩ := b1.form
  have HH := Lib.hid hh
  have HA := Lib.hid b0
  have HB := Lib.hid b1
  clear hh b0 b1
  have HV := fun (w : World) (he : Ext W w) => lives_any w (HH.out.ext he)
  have HV := Lib.hid HV
  by_cases ha : 2000 < x0.length
  · have ha' : (2000 : Int) < (x0.length : Int) := by omega
    go_enter Tryd.func4, Tryd.ntmps4
    go_wp2_with (go_at_call 9; refine (HV.out _ (Ext.refl _)).mono ?_; rintro e w1 ⟨rfl, he⟩)
    go_ret
    exact ⟨rfl, he⟩
  have ha' : ¬ (2000 : Int) < (x0.length : Int) := by omega
  by_cases hb : 2000 < x1.length
  · have hb' : (2000 : Int) < (x1.length : Int) := by omega
    go_enter Tryd.func4, Tryd.ntmps4
    go_wp2_with (go_at_call 9; refine (HV.out _ (Ext.refl _)).mono ?_; rintro e w1 ⟨rfl, he⟩)
    go_ret
    exact ⟨rfl, he⟩
  have hb' : ¬ (2000 : Int) < (x1.length : Int) := by omega
  have hj := joined x0 x1
  have HJ := Lib.hid hj
  clear hj
  go_enter Tryd.func4, Tryd.ntmps4
  go_wp2_with fail
  refine (sum_any _ _ _ HH.out HA.out).mono ?_
  rintro e w1 ⟨rfl, rfl⟩
  go_wp2_with fail
  refine (sum_any _ _ _ HH.out HB.out).mono ?_
  rintro e w1 ⟨rfl, rfl⟩
  go_wp2_with fail
  refine (join_any _ _ x1.length _ (by omega)).mono ?_
  rintro e w1 ⟨rfl, he1⟩
  rw [HJ.out]
  have HX1 := Lib.hid he1
  clear he1
  go_wp2_with fail
  refine (HV.out _ HX1.out).mono ?_
  rintro e w2 ⟨rfl, he2⟩
  have HX2 := Lib.hid (HX1.out.trans he2)
  clear he2
  have HO := Lib.hid (own_empty w2)
  go_wp2_with (first
    | (at_builtin; refine wpList_appG rfl elemB _ (.tmp 28) (.tmp 29) rfl w2.heap.size _ 0 [] rfl HO.out _ x0.length (x0.map byteV) rfl (HA.out.ext (HX2.out.alloc _)).rd (one_byteV _) (by omega) (by unfold maxLen; omega) (by simp) ?_; intro v3 w3 ha3; have HA3 := Lib.hid ha3; clear ha3)
    | (at_builtin; refine wpList_appG rfl elemB _ (.tmp 30) (.tmp 31) rfl w2.heap.size _ x0.length (x0.map byteV) rfl (OB.of0 HA3.out.own).own _ x1.length (x1.map byteV) rfl (HB.out.ext (HX2.out.trans (HA3.out.ext ((Ext.refl _).alloc _) rfl HO.out))).rd (one_byteV _) (by omega) (by unfold maxLen; omega) (HA3.out.ext ((Ext.refl _).alloc _) rfl HO.out).size ?_; intro v4 w4 ha4; have HA4 := Lib.hid ha4; clear ha4))
  have he3 : Ext w2 w3 := HA3.out.ext ((Ext.refl _).alloc _) rfl HO.out
  have he4 : Ext w2 w4 := HA4.out.ext he3 rfl (OB.of0 HA3.out.own).own
  have ho4 : OB 5 w2.heap.size w4 v4 (x0 ++ x1) := OB.app HA4.out.own
  have HX4 := Lib.hid (HX2.out.trans he4)
  have HO4 := Lib.hid ho4
  clear he3 he4 ho4
  refine (rsum_any _ _ _ HO4.out.rb).mono ?_
  rintro e w5 ⟨rfl, rfl⟩
  by_cases hn : 3000 < x2
  · go_wp2
    go_ret
    exact ⟨rfl, HX4.out⟩
  · obtain ⟨z, hz1, hz2⟩ := zeros_pair (Crc.sum x0) x2 (by omega)
    have HZ1 := Lib.hid hz1
    have HZ2 := Lib.hid hz2
    clear hz1 hz2
    go_wp2_with fail
    refine (sum_any _ _ _ (HH.out.ext HX4.out) (HA.out.ext HX4.out)).mono ?_
    rintro e w5 ⟨rfl, rfl⟩
    go_wp2_with fail
    refine (HZ1.out _).mono ?_
    rintro e w6 ⟨rfl, he6⟩
    have HX6 := Lib.hid (HX4.out.trans he6)
    clear he6
    go_wp2_with fail
    refine (rsum_any _ _ _ (HA.out.ext HX6.out)).mono ?_
    rintro e w7 ⟨rfl, rfl⟩
    go_wp2_with fail
    refine (HZ2.out _).mono ?_
    rintro e w7 ⟨rfl, he7⟩
    go_wp2
    go_ret
    exact ⟨rfl, HX6.out.trans he7⟩

/-- the numbers that the statement lets by -/
def big : Int := 1152921504606846976

set_option maxRecDepth 100000 in
set_option maxHeartbeats 1000000 in
theorem crcZeros_law (W : World) (hh : Halves W) (x0 : Int) (b0 : 0 ≤ x0 ∧ x0 ≤ 4294967295) (x1 : Int) (b1 : -9223372036854775808 ≤ x1 ∧ x1 ≤ 9223372036854775807) (x2 : Int) (b2 : -9223372036854775808 ≤ x2 ∧ x2 ≤ 9223372036854775807) :
    Calls Tryd.prog 5 #[.int .u32 x0, .int .i64 x1, .int .i64 x2] W fun e w' => e = .returned (.bool true) ∧ Ext W w' := by
  obtain ⟨s, rfl⟩ : ∃ s : Crc.W32, x0 = n32 s := ⟨BitVec.ofNat 32 x0.toNat, (u32_of x0 b0).symm⟩
  have HV := Lib.hid (fun (w : World) (he : Ext W w) => lives_any w (hh.ext he))
  clear hh
  obtain ⟨l1, u1⟩ := b1
  obtain ⟨l2, u2⟩ := b2
  by_cases h1 : x1 < 0
  · have hz := zeros_neg s x1
    have HZ := Lib.hid (fun w => hz w (by omega))
    clear hz
    go_enter Tryd.func5, Tryd.ntmps5
    go_wp2_with fail
    refine (HV.out _ (Ext.refl _)).mono ?_
    rintro e w1 ⟨rfl, he⟩
    go_wp2_with fail
    refine (HZ.out _).mono ?_
    rintro e w2 ⟨rfl, rfl⟩
    go_wp2
    go_ret
    exact ⟨rfl, he⟩
  by_cases h : x2 < 0 ∨ 1152921504606846976 < x1 ∨ 1152921504606846976 < x2
  · have h1' : 0 ≤ x1 := by omega
    by_cases h2 : x2 < 0
    · clear h
      go_enter Tryd.func5, Tryd.ntmps5
      go_wp2_with fail
      refine (HV.out _ (Ext.refl _)).mono ?_
      rintro e w1 ⟨rfl, he⟩
      go_wp2
      go_ret
      exact ⟨rfl, he⟩
    by_cases h3 : 1152921504606846976 < x1
    · clear h
      go_enter Tryd.func5, Tryd.ntmps5
      go_wp2_with fail
      refine (HV.out _ (Ext.refl _)).mono ?_
      rintro e w1 ⟨rfl, he⟩
      go_wp2
      go_ret
      exact ⟨rfl, he⟩
    have h4 : 1152921504606846976 < x2 := by omega
    clear h
    go_enter Tryd.func5, Tryd.ntmps5
    go_wp2_with fail
    refine (HV.out _ (Ext.refl _)).mono ?_
    rintro e w1 ⟨rfl, he⟩
    go_wp2
    go_ret
    exact ⟨rfl, he⟩
  · have g1 : x1 ≤ 1152921504606846976 := by omega
    have g2 : x2 ≤ 1152921504606846976 := by omega
    obtain ⟨n, rfl⟩ : ∃ n : Nat, x1 = n := ⟨x1.toNat, by omega⟩
    obtain ⟨m, rfl⟩ : ∃ m : Nat, x2 = m := ⟨x2.toNat, by omega⟩
    have hz := Crc.zeros_zeros s n m
    have HZ := Lib.hid hz
    clear hz h h1 l1 u1 l2 u2
    go_enter Tryd.func5, Tryd.ntmps5
    go_wp2_with fail
    refine (HV.out _ (Ext.refl _)).mono ?_
    rintro e w1 ⟨rfl, he1⟩
    go_wp2_with fail
    refine (zeros_any s n _ (by omega)).mono ?_
    rintro e w2 ⟨rfl, he2⟩
    go_wp2_with fail
    refine (zeros_any _ m _ (by omega)).mono ?_
    rintro e w3 ⟨rfl, he3⟩
    rw [HZ.out]
    go_wp2_with fail
    have hs : (n : Int) + (m : Int) = ((n + m : Nat) : Int) := by omega
    rw [hs]
    refine (zeros_any s (n + m) _ (by omega)).mono ?_
    rintro e w4 ⟨rfl, he4⟩
    clear hs
    go_wp2
    go_ret
    exact ⟨rfl, ((he1.trans he2).trans he3).trans he4⟩

set_option maxRecDepth 100000 in
set_option maxHeartbeats 1000000 in
theorem crcParts_law (W : World) (hh : Halves W) (v0 : Value) (x0 : List UInt8) (b0 : RB W v0 x0) (v1 : Value) (x1 : List Int) (b1 : Rd W 1 v1 x1.length (x1.map (Value.int .i64))) (w1 : ∀ z ∈ x1, (Lit.int .i64 z).wf = true) :
    Calls Tryd.prog 7 #[v0, v1] W fun e w' => e = .returned (.bool true) ∧ Ext W w' := by
  obtain ⟨A, c, rfl⟩ := b0.form
  obtain ⟨A', c', rfl, hrd⟩ := b1
  have HV := Lib.hid (fun (w : World) (he : Ext W w) => lives_any w (hh.ext he))
  have HH := Lib.hid hh
  have HB := Lib.hid b0
  have hnc := b0.nc.1
  have hnc' := hrd.nc
  have hcm' := hrd.cm
  unfold maxLen at hcm'
  clear hh b0
  by_cases ha : 2000 < x0.length
  · have ha' : (2000 : Int) < (x0.length : Int) := by omega
    go_enter Tryd.func7, Tryd.ntmps7
    go_wp2_with (go_at_call 9; refine (HV.out _ (Ext.refl _)).mono ?_; rintro e w1 ⟨rfl, he⟩)
    go_ret
    exact ⟨rfl, he⟩
  have ha' : ¬ (2000 : Int) < (x0.length : Int) := by omega
  by_cases hb : 20 < x1.length
  · have hb' : (20 : Int) < (x1.length : Int) := by omega
    go_enter Tryd.func7, Tryd.ntmps7
    go_wp2_with (go_at_call 9; refine (HV.out _ (Ext.refl _)).mono ?_; rintro e w1 ⟨rfl, he⟩)
    go_ret
    exact ⟨rfl, he⟩
  have hb' : ¬ (20 : Int) < (x1.length : Int) := by omega
  go_enter Tryd.func7, Tryd.ntmps7
  go_wp2
  go_loop [5, 6, 7] (fun s at_ i => ∃ k p : Nat, k ≤ x1.length ∧ p ≤ x0.length ∧ i = .int .i64 k ∧ at_ = .int .i64 p ∧ s = .int .u32 (n32 (Crc.more 0#32 (x0.take p)))) (fun _ _ i => x1.length - (intOf i).toNat)
  case atStart => exact ⟨0, 0, Nat.zero_le _, Nat.zero_le _, rfl, rfl, by rw [show Crc.more 0#32 (x0.take 0) = 0#32 by simp [Crc.more, Crc.reg]]; unfold n32; rfl⟩
  case round =>
    obtain ⟨k, p, hk, hp, rfl, rfl, rfl⟩ := hrel
    by_cases hlt : k < x1.length
    · obtain ⟨b, o, rfl⟩ := hrd.addr (by omega)
      have hcell := hrd.get (j := k) (u := .int .i64 x1[k]) (by rw [List.getElem?_map, List.getElem?_eq_getElem hlt]; rfl)
      have hwf := bounds_i64 (w1 x1[k] (List.getElem_mem hlt))
      obtain ⟨z1, z2⟩ := hwf
      have hk0 : (0 : Int) ≤ (k : Int) := by omega
      have hk1 : (k : Int) < (x1.length : Int) := by omega
      generalize x1[k] = z at *
      clear w1
      by_cases hz : z < 0
      · go_wp2
        go_round
        case rel => exact ⟨k + 1, p, by omega, by omega, by go_num, rfl, rfl⟩
        case measure => simp [intOf]; omega
      by_cases hz2 : (x0.length : Int) - p < z
      · go_wp2
        go_round
        case rel => exact ⟨k + 1, p, by omega, by omega, by go_num, rfl, rfl⟩
        case measure => simp [intOf]; omega
      obtain ⟨q, rfl⟩ : ∃ q : Nat, z = q := ⟨z.toNat, by omega⟩
      have hpq : p + q ≤ x0.length := by omega
      obtain ⟨A2, hrun, hm⟩ := HB.out.lohi elemB (k := p) (q := q) hpq (p : Int) ((p : Int) + (q : Int)) rfl (by omega)
      have hmm := Crc.more_more x0 (at_ := p) (q := q) 0#32
      have HM := Lib.hid hm
      have HMM := Lib.hid hmm
      have g1 : (p : Int) + (q : Int) ≤ (c : Int) := by omega
      have g2 : (0 : Int) ≤ (p : Int) := by omega
      have g3 : (p : Int) ≤ (p : Int) + (q : Int) := by omega
      clear hm hmm
      go_wp2_with fail
      refine (more_any _ _ _ _ HH.out HM.out).mono ?_
      rintro e w2 ⟨rfl, rfl⟩
      rw [HMM.out]
      go_wp2
      go_round
      case rel => exact ⟨k + 1, p + q, by omega, by omega, by go_num, by go_num, rfl⟩
      case measure => simp [intOf]; omega
    · obtain rfl : k = x1.length := by omega
      obtain ⟨A2, hrun, hd⟩ := HB.out.lo elemB hp (p : Int) rfl
      have HD := Lib.hid hd
      have hr := Crc.more_rest x0 p 0#32
      have HR := Lib.hid hr
      have g1 : (p : Int) ≤ (x0.length : Int) := by omega
      clear hd hr
      go_wp2_with fail
      refine (HV.out _ (Ext.refl _)).mono ?_
      rintro e w2 ⟨rfl, he⟩
      go_wp2_with fail
      refine (more_any _ _ _ _ (HH.out.ext he) (HD.out.ext he)).mono ?_
      rintro e w3 ⟨rfl, rfl⟩
      rw [HR.out]
      go_wp2_with fail
      refine (sum_any _ _ _ (HH.out.ext he) (HB.out.ext he)).mono ?_
      rintro e w3 ⟨rfl, rfl⟩
      have hs : Crc.more 0#32 x0 = Crc.sum x0 := rfl
      rw [hs]
      clear hs
      go_wp2
      go_ret
      exact ⟨rfl, he⟩
end Go.Proofs.YtaiaimobdpkikaaDoor
