/-
  The statements' own functions of layer 2: linear, bursts.
-/
import Derived.Test.YtaiaimobdpkikaaDoorCrcLaws2
import Derived.StillTailTactics
import Derived.IntWalk
namespace Go.Proofs.YtaiaimobdpkikaaDoor
open Go.RowKit Go.Ox
attribute [local irreducible] OB RB

theorem openL_sealed (d : List UInt8) : openL (sealed d) = some d := by
  have hl : (sealed d).length = d.length + 4 := by simp [sealed, tailL]
  rw [openL_at hl]
  have h1 : (sealed d).take d.length = d := by simp [sealed]
  have h2 : (sealed d).drop d.length = tailL (Crc.sum d) := by simp [sealed]
  rw [h1, h2]
  simp

set_option maxRecDepth 100000 in
set_option maxHeartbeats 1000000 in
theorem crcLinear_law (W : World) (hh : Halves W) (v0 : Value) (x0 : List UInt8) (b0 : RB W v0 x0) (v1 : Value) (x1 : List UInt8) (b1 : RB W v1 x1) (v2 : Value) (x2 : List UInt8) (b2 : RB W v2 x2) :
    Calls Tryd.prog 8 #[v0, v1, v2] W fun e w' => e = .returned (.bool true) ∧ Ext W w' := by
  obtain ⟨A0, c0, rfl⟩ := b0.form
  obtain ⟨A1, c1, rfl⟩ := b1.form
  obtain ⟨A2, c2, rfl⟩ := b2.form
  have HV := Lib.hid (fun (w : World) (he : Ext W w) => lives_any w (hh.ext he))
  have HH := Lib.hid hh
  have HB0 := Lib.hid b0
  have HB1 := Lib.hid b1
  have HB2 := Lib.hid b2
  clear hh b0 b1 b2
  by_cases ha : 2000 < x0.length
  · have ha' : (2000 : Int) < (x0.length : Int) := by omega
    go_enter Tryd.func8, Tryd.ntmps8
    go_wp2_with (go_at_call 9; refine (HV.out _ (Ext.refl _)).mono ?_; rintro e w1 ⟨rfl, he⟩)
    go_ret
    exact ⟨rfl, he⟩
  have ha' : ¬ (2000 : Int) < (x0.length : Int) := by omega
  by_cases hb : x0.length ≠ x1.length
  · have hb' : ((x0.length : Int) != (x1.length : Int)) = true := by simp; omega
    go_enter Tryd.func8, Tryd.ntmps8
    go_wp2_with (go_at_call 9; refine (HV.out _ (Ext.refl _)).mono ?_; rintro e w1 ⟨rfl, he⟩)
    go_ret
    exact ⟨rfl, he⟩
  have hb := Classical.not_not.1 hb
  have hb' : ((x0.length : Int) != (x1.length : Int)) = false := by simp; omega
  by_cases hc : x0.length ≠ x2.length
  · have hc' : ((x0.length : Int) != (x2.length : Int)) = true := by simp; omega
    have HBB := Lib.hid hb
    clear hb
    go_enter Tryd.func8, Tryd.ntmps8
    go_wp2_with (go_at_call 9; refine (HV.out _ (Ext.refl _)).mono ?_; rintro e w1 ⟨rfl, he⟩)
    go_ret
    exact ⟨rfl, he⟩
  have hc := Classical.not_not.1 hc
  have hc' : ((x0.length : Int) != (x2.length : Int)) = false := by simp; omega
  have HBB := Lib.hid hb
  have HCC := Lib.hid hc
  have k1 : x0.length ≤ x1.length := by omega
  have k2 : x0.length ≤ x2.length := by omega
  have k1' : x1.length ≤ x0.length := by omega
  have k2' : x2.length ≤ x0.length := by omega
  have k0 : x0.length ≤ 2000 := by omega
  clear hb hc ha
  go_enter Tryd.func8, Tryd.ntmps8
  go_wp2_with (at_make; refine wpList_mk rfl elemB _ (.tmp 30) (.tmp 30) rfl x0.length rfl rfl (by omega) (by unfold maxLen; omega) ?_; intro v3 w3 hv3 ho3 he3; subst hv3)
  have hb3 : OB 5 W.heap.size w3 (.slice (some ⟨W.heap.size, 0, none⟩) x0.length x0.length) (List.replicate x0.length 0) := by
    rw [madeB] at ho3
    unfold OB
    rw [List.length_replicate]; exact ho3
  clear ho3
  obtain ⟨X, hxl, hsx, hget⟩ := Crc.xor3_ex x0 x1 x2 HBB.out HCC.out
  have HXL := Lib.hid hxl
  have HSX := Lib.hid hsx
  have HG := Lib.hid hget
  have HB3 := Lib.hid hb3
  have HE3 := Lib.hid he3
  clear hsx hget hb3 he3 hxl
  have hn0 : 0 ≤ (x0.length : Int) := by omega
  go_loopw [8] (fun i wr => ∃ k : Nat, k ≤ x0.length ∧ i = .int .i64 k ∧ OB 5 W.heap.size wr (.slice (some ⟨W.heap.size, 0, none⟩) x0.length x0.length) (X.take k ++ List.replicate (x0.length - k) 0) ∧ Ext W wr) (fun i _ => x0.length - (intOf i).toNat)
  case atStart => exact ⟨0, Nat.zero_le _, rfl, by simpa using HB3.out, HE3.out⟩
  case round =>
    obtain ⟨k, hk, rfl, hown, hext⟩ := hrel
    have HO := Lib.hid hown
    clear hown
    by_cases hlt : k < x0.length
    · obtain ⟨q0, o0, rfl, hc0⟩ := (HB0.out.ext hext).byteS hlt
      obtain ⟨q1, o1, rfl, hc1⟩ := (HB1.out.ext hext).byteS (k := k) (by omega)
      obtain ⟨q2, o2, rfl, hc2⟩ := (HB2.out.ext hext).byteS (k := k) (by omega)
      obtain ⟨hc3, hf3, _⟩ := HO.out.at_ (j := k) (by have := HXL.out; simp; omega)
      have ht := Crc.take_set x0 X k HXL.out hlt
      rw [HG.out k hlt (by omega) (by omega) (by have := HXL.out; omega)] at ht
      have HT := Lib.hid ht
      clear ht
      generalize (X.take k ++ List.replicate (x0.length - k) 0)[k]'(by have := HXL.out; simp; omega) = old at *
      have e8 := xor_n8
      have g1 : (k : Int) < (x0.length : Int) := by omega
      have g2 : (k : Int) < (x1.length : Int) := by omega
      have g3 : (k : Int) < (x2.length : Int) := by omega
      have g0 : 0 ≤ (k : Int) := by omega
      generalize wr.heap.size = hsz
      go_wp2
      go_still_tail 17, (by kernel_rfl)
      change wpList _ _ _ _ _ wr.drew
      go_wp2
      go_roundw
      case rel =>
        refine ⟨k + 1, by omega, by go_num, ?_, (hext.setCell (p := ⟨W.heap.size, k, none⟩) (Nat.le_refl _) _).drew⟩
        rw [← HT.out]
        exact (HO.out.stored k _).ext (Ext.refl _).drew
      case measure => simp [intOf]; omega
    · obtain rfl : k = x0.length := by omega
      have ho : OB 5 W.heap.size wr (.slice (some ⟨W.heap.size, 0, none⟩) x0.length x0.length) X := by
        have := HO.out
        rwa [Nat.sub_self, List.replicate_zero, List.append_nil, List.take_of_length_le (by have := HXL.out; omega)] at this
      have HOX := Lib.hid ho
      clear ho HO
      have hsl : (sealed X).length ≤ 1000000 := by
        have := HXL.out
        simp [sealed, tailL]; omega
      have hXl : X.length ≤ 1000000 := by have := HXL.out; omega
      have HSL := Lib.hid hsl
      clear hsl
      go_wp2_with fail
      refine (seal_any _ X _ (HH.out.ext hext) HOX.out.rb hXl).mono ?_
      rintro e w4 ⟨v4, rfl, ho4, he4⟩
      obtain ⟨A4, c4, rfl⟩ := ho4.form
      have HO4 := Lib.hid ho4
      have hx4 := hext.trans he4
      clear ho4
      go_wp2_with fail
      refine (open_some (HH.out.ext hx4) HO4.out.rb HSL.out (openL_sealed X)).mono ?_
      rintro e w5 ⟨v5, rfl, ho5, he5⟩
      have hx5 := hx4.trans he5
      have HOX5 := Lib.hid ((HOX.out.ext he4).ext he5)
      clear ho5 he5 he4 hx4 HOX HO4
      go_wp2_with fail
      refine (HV.out _ hx5).mono ?_
      rintro e w6 ⟨rfl, he6⟩
      have hx6 := hx5.trans he6
      have HOX6 := Lib.hid (HOX5.out.ext he6)
      clear he6 HOX5 hx5
      go_wp2_with fail
      refine (sum_any _ _ _ (HH.out.ext hx6) (HB0.out.ext hx6)).mono ?_
      rintro e w7 ⟨rfl, rfl⟩
      go_wp2_with fail
      refine (sum_any _ _ _ (HH.out.ext hx6) (HB1.out.ext hx6)).mono ?_
      rintro e w7 ⟨rfl, rfl⟩
      go_wp2_with fail
      refine (sum_any _ _ _ (HH.out.ext hx6) (HB2.out.ext hx6)).mono ?_
      rintro e w7 ⟨rfl, rfl⟩
      go_wp2_with fail
      refine (sum_any _ _ _ (HH.out.ext hx6) HOX6.out.rb).mono ?_
      rintro e w7 ⟨rfl, rfl⟩
      rw [← HSX.out]
      have e1 := xor_bv
      go_wp2_with fail
      refine (sum_any _ _ _ (HH.out.ext hx6) HOX6.out.rb).mono ?_
      rintro e w7 ⟨rfl, rfl⟩
      go_wp2_with fail
      refine (rsum_any _ _ _ HOX6.out.rb).mono ?_
      rintro e w7 ⟨rfl, rfl⟩
      go_wp2
      go_ret
      exact ⟨rfl, hx6⟩

theorem pow_n8 (r : Nat) (h : r < 8) : (2 : Int) ^ r % 256 = n8 (UInt8.ofNat (2 ^ r)) := by
  have hp : 2 ^ r < 2 ^ 8 := Nat.pow_lt_pow_right (by omega) h
  rw [n8_of (by simpa using hp)]
  have : ((2 : Int) ^ r) = ((2 ^ r : Nat) : Int) := by norm_cast
  rw [this]
  generalize 2 ^ r = x at hp
  omega
/-- the register behind sealed bytes is one and the same -/
theorem reg_sealed (x : List UInt8) : Crc.reg (~~~0#32) (sealed x) = Crc.Tn 32 (BitVec.allOnes 32) := by
  unfold sealed tailL
  rw [Crc.reg_append, Crc.reg_four _ (Crc.sum x)]
  · congr 1
    unfold Crc.sum Crc.more
    generalize Crc.reg (~~~0#32) x = r
    apply BitVec.eq_of_getLsbD_eq
    intro i hi
    simp only [BitVec.getLsbD_xor, BitVec.getLsbD_not, BitVec.getLsbD_allOnes, hi, decide_true, Bool.true_and]
    cases r.getLsbD i <;> rfl
  · rw [UInt8.toNat_ofNat_of_lt' (by have := Nat.mod_lt (Crc.sum x).toNat (show 0 < 256 by omega); simpa using this)]
  · rw [UInt8.toNat_ofNat_of_lt' (by have := Nat.mod_lt ((Crc.sum x).toNat / 256) (show 0 < 256 by omega); simpa using this)]
  · rw [UInt8.toNat_ofNat_of_lt' (by have := Nat.mod_lt ((Crc.sum x).toNat / 65536) (show 0 < 256 by omega); simpa using this)]
  · have := (Crc.sum x).isLt
    rw [UInt8.toNat_ofNat_of_lt' (by show _ < 256; omega)]
theorem openL_burst (x : List UInt8) (p : Nat) (turn : Crc.W32) (h : p + 32 ≤ 8 * (sealed x).length) (ht : turn ≠ 0#32) : openL (Crc.flips (sealed x) p turn 32) = none := by
  have hl : (Crc.flips (sealed x) p turn 32).length = x.length + 4 := by rw [Crc.flips_len]; simp [sealed, tailL]
  have hb := Crc.reg_burst (sealed x) p turn (~~~0#32) h ht
  generalize Crc.flips (sealed x) p turn 32 = t at *
  rw [openL_at hl, ← sealed_eq hl]
  by_cases he : sealed (t.take x.length) = t
  · exfalso
    apply hb
    rw [reg_sealed x, ← he, reg_sealed]
  · have : (sealed (t.take x.length) == t) = false := by simpa using he
    rw [this]; rfl

set_option maxRecDepth 100000 in
set_option maxHeartbeats 1000000 in
theorem crcBursts_law (W : World) (hh : Halves W) (v0 : Value) (x0 : List UInt8) (b0 : RB W v0 x0) (x1 : Int) (b1 : -9223372036854775808 ≤ x1 ∧ x1 ≤ 9223372036854775807) (x2 : Int) (b2 : 0 ≤ x2 ∧ x2 ≤ 4294967295) :
    Calls Tryd.prog 6 #[v0, .int .i64 x1, .int .u32 x2] W fun e w' => e = .returned (.bool true) ∧ Ext W w' := by
  obtain ⟨A0, c0, rfl⟩ := b0.form
  have HV := Lib.hid (fun (w : World) (he : Ext W w) => lives_any w (hh.ext he))
  have HH := Lib.hid hh
  have HB0 := Lib.hid b0
  clear hh b0
  obtain ⟨l1, u1⟩ := b1
  by_cases ha : 2000 < x0.length
  · have ha' : (2000 : Int) < (x0.length : Int) := by omega
    go_enter Tryd.func6, Tryd.ntmps6
    go_wp2_with (go_at_call 9; refine (HV.out _ (Ext.refl _)).mono ?_; rintro e w1 ⟨rfl, he⟩)
    go_ret
    exact ⟨rfl, he⟩
  have ha' : ¬ (2000 : Int) < (x0.length : Int) := by omega
  by_cases hz : x2 = 0
  · subst hz
    go_enter Tryd.func6, Tryd.ntmps6
    go_wp2_with (go_at_call 9; refine (HV.out _ (Ext.refl _)).mono ?_; rintro e w1 ⟨rfl, he⟩)
    go_ret
    exact ⟨rfl, he⟩
  obtain ⟨s, hs, hs0⟩ : ∃ s : Crc.W32, x2 = n32 s ∧ s ≠ 0#32 := by
    refine ⟨BitVec.ofNat 32 x2.toNat, (u32_of x2 b2).symm, fun h => hz ?_⟩
    have := u32_of x2 b2
    rw [h] at this
    rw [← this]; unfold n32; rfl
  subst hs
  have hz' : (n32 s == 0) = false := by simpa using hz
  have HS0 := Lib.hid hs0
  clear hs0 hz ha
  have hsl : (sealed x0).length = x0.length + 4 := by simp [sealed, tailL]
  have HSL := Lib.hid hsl
  have HSE := Lib.hid (openL_sealed x0)
  have hbur := fun (p : Nat) (h : p + 32 ≤ 8 * (sealed x0).length) => openL_burst x0 p s h HS0.out
  have HBUR := Lib.hid hbur
  have hseal := seal_any _ x0 W HH.out HB0.out (by omega)
  have HSA := Lib.hid hseal
  clear hbur hseal
  generalize sealed x0 = S at *
  go_enter Tryd.func6, Tryd.ntmps6
  go_wp2_with fail
  refine HSA.out.mono ?_
  rintro e w1 ⟨v1, rfl, ho1, he1⟩
  obtain ⟨A1, c1, rfl⟩ := ho1.form
  have HO1 := Lib.hid ho1
  have HE1 := Lib.hid he1
  clear ho1 he1
  rw [hsl] at HO1 ⊢
  clear hsl
  go_wp2_with fail
  refine (HV.out _ HE1.out).mono ?_
  rintro e w2 ⟨rfl, he2⟩
  have HO2 := Lib.hid (HO1.out.ext he2)
  have HE2 := Lib.hid (HE1.out.trans he2)
  clear he2
  by_cases hp : x1 < 0
  · go_wp2_with fail
    refine (HV.out _ HE2.out).mono ?_
    rintro e w3 ⟨rfl, he3⟩
    go_wp2
    go_ret
    exact ⟨rfl, HE2.out.trans he3⟩
  obtain ⟨p, rfl⟩ : ∃ p : Nat, x1 = p := ⟨x1.toNat, by omega⟩
  by_cases hp2 : 8 * ((x0.length : Int) + 4) - 32 < (p : Int)
  · go_wp2_with fail
    refine (HV.out _ HE2.out).mono ?_
    rintro e w3 ⟨rfl, he3⟩
    go_wp2
    go_ret
    exact ⟨rfl, HE2.out.trans he3⟩
  have hpl : p + 32 ≤ 8 * (x0.length + 4) := by omega
  have HO := Lib.hid (own_empty w2)
  have hr2 : Rd w2 1 (.slice A1 (x0.length + 4) c1) (x0.length + 4) (S.map byteV) := by
    have := HO2.out.rb.rd
    rwa [HSL.out] at this
  have HR2 := Lib.hid hr2
  clear hr2
  go_wp2_with (at_builtin; refine wpList_app rfl elemB _ (.tmp 47) (.tmp 48) rfl w2.heap.size _ 0 [] rfl HO.out _ (x0.length + 4) (S.map byteV) rfl (HR2.out.ext ((Ext.refl _).alloc _)) (one_byteV _) (by omega) (by unfold maxLen; omega) (by simp) ?_; intro v3 w3 ha3)
  have ho3 : OB 5 w2.heap.size w3 v3 S := OB.of0 (by have := ha3.own; rwa [← HSL.out] at this)
  have he3 : Ext w2 w3 := ha3.ext ((Ext.refl _).alloc _) rfl HO.out
  obtain ⟨g, c3, rfl, hg⟩ := ho3.at0 (by have := HSL.out; omega)
  have HO3 := Lib.hid ho3
  have HE3 := Lib.hid he3
  clear ha3 ho3 he3
  rw [HSL.out]
  go_loopw [9] (fun i wr => ∃ k : Nat, k ≤ 32 ∧ i = .int .i64 k ∧ OB 5 w2.heap.size wr (.slice (some ⟨g, 0, none⟩) (x0.length + 4) c3) (Crc.flips S p s k) ∧ Ext w2 wr) (fun i _ => 32 - (intOf i).toNat)
  case atStart => exact ⟨0, by omega, rfl, by have := HO3.out; rwa [HSL.out] at this, HE3.out⟩
  case round =>
    obtain ⟨k, hk, rfl, hown, hext⟩ := hrel
    have HOW := Lib.hid hown
    clear hown
    by_cases hlt : k < 32
    · have hfl := Crc.flips_len S p s k
      rw [HSL.out] at hfl
      have h0 := n32_lo s
      have h1 := n32_hi s
      have hk0 : (0 : Int) ≤ (k : Int) := by omega
      have hk1 : (k : Int) < 32 := by omega
      cases hb : s.getLsbD k with
      | true =>
        have hbit := shrk_one hb
        have hf : Crc.flips S p s (k + 1) = Crc.flip1 (Crc.flips S p s k) (p + k) := by rw [Crc.flips, if_pos hb]
        have HF := Lib.hid hf
        clear hf hb
        obtain ⟨q, hq⟩ : ∃ q, q = p + k := ⟨_, rfl⟩
        rw [← hq] at HF
        have e1 : IntKind.i64.wrap ((p : Int) + (k : Int)) = (q : Int) := by rw [IntWalk.i64_in _ (by omega)]; omega
        have e2 : IntKind.i64.wrap ((q : Int).tdiv 8) = ((q / 8 : Nat) : Int) := by
          rw [Int.tdiv_eq_ediv_of_nonneg (by omega), IntWalk.i64_in _ (by omega)]; omega
        have e3 : (q : Int).tmod 8 = ((q % 8 : Nat) : Int) := by
          rw [Int.tmod_eq_emod_of_nonneg (by omega)]; omega
        have e2b : IntKind.i64.wrap ((q : Int) / 8) = ((q / 8 : Nat) : Int) := by rw [IntWalk.i64_in _ (by omega)]; omega
        have e3b : (q : Int) % 8 = ((q % 8 : Nat) : Int) := by omega
        have e4 : IntKind.i64.wrap ((q % 8 : Nat) : Int) = ((q % 8 : Nat) : Int) := IntWalk.i64_in _ (by omega)
        obtain ⟨hc3, hf3, hg3⟩ := HOW.out.atD (j := q / 8) (by omega)
        obtain ⟨m, hm⟩ : ∃ m, m = q / 8 := ⟨_, rfl⟩
        obtain ⟨r, hr⟩ : ∃ r, r = q % 8 := ⟨_, rfl⟩
        rw [← hm] at e2 e2b
        rw [← hr] at e3 e4 e3b
        have hm1 : m < x0.length + 4 := by omega
        have hr8 : r < 8 := by omega
        have hmI : (m : Int) < (x0.length : Int) + 4 := by omega
        have hmJ : (0 : Int) ≤ (m : Int) := by omega
        have hr0 : (0 : Int) ≤ (r : Int) := by omega
        have hr1 : (r : Int) < 8 := by omega
        have HM := Lib.hid hm
        have HR := Lib.hid hr
        simp only [← hm] at hc3 hf3
        clear hq hm hr
        have hx := xor_n8
        have e5 : (2 : Int) ^ r % 256 = n8 (UInt8.ofNat (2 ^ r)) := pow_n8 r hr8
        obtain ⟨old, hold⟩ : ∃ o, o = (Crc.flips S p s k).getD m 0 := ⟨_, rfl⟩
        rw [← hold] at hc3
        have HOLD := Lib.hid hold
        clear hold
        go_wp2
        go_still_tail 19, (by kernel_rfl)
        change wpList _ _ _ _ _ wr.drew
        go_wp2
        go_roundw
        case rel =>
          refine ⟨k + 1, by omega, by go_num, ?_, (hext.setCell (p := ⟨g, m, none⟩) hg _).drew⟩
          rw [HF.out, Crc.flip1, ← HM.out, ← HR.out, ← HOLD.out]
          exact (HOW.out.stored m _).ext (Ext.refl _).drew
        case measure => simp [intOf]; omega
      | false =>
        have hbit := shrk_nil hb
        have hf : Crc.flips S p s (k + 1) = Crc.flips S p s k := by rw [Crc.flips, if_neg (by rw [hb]; simp)]
        have HF := Lib.hid hf
        clear hf hb
        go_wp2
        go_roundw
        case rel => exact ⟨k + 1, by omega, by go_num, by rw [HF.out]; exact HOW.out, hext⟩
        case measure => simp [intOf]; omega
    · obtain rfl : k = 32 := by omega
      have hfl := Crc.flips_len S p s 32
      rw [HSL.out] at hfl
      have hnone := HBUR.out p (by rw [HSL.out]; exact hpl)
      have HN := Lib.hid hnone
      have HFL := Lib.hid hfl
      have hEx := HE2.out.trans hext
      have HO2' := Lib.hid (HO2.out.ext hext)
      clear hfl hnone
      go_wp2_with fail
      refine (open_some (HH.out.ext hEx) HO2'.out.rb (by rw [HSL.out]; omega) HSE.out).mono ?_
      rintro e w4 ⟨v4, rfl, ho4, he4⟩
      have HOW4 := Lib.hid (HOW.out.ext he4)
      clear ho4
      go_wp2_with fail
      refine (open_none (HH.out.ext (hEx.trans he4)) HOW4.out.rb (by rw [HFL.out]; omega) HN.out).mono ?_
      rintro e w5 ⟨rfl, he5⟩
      go_wp2
      go_ret
      exact ⟨rfl, (hEx.trans he4).trans he5⟩
end Go.Proofs.YtaiaimobdpkikaaDoor
