/-
  The walk of MomentCodes.
-/
import Derived.Test.YtbcbhcohfbkijaaMomCodes
import Derived.Test.YtbcbhcohfbkijaaCopy
import Derived.Test.YtbcbhcohfbkijaaTail
namespace Go.Proofs.Ytbcbhcohfbkijaa
open Go.RowKit Go.Ox
set_option linter.unusedVariables false
attribute [local irreducible] OB RB

set_option maxRecDepth 100000 in
set_option maxHeartbeats 400000 in
theorem momentCodes_long (m : Mom.M) (n c : Nat) (A : Option Addr) (w : World) (h : 1000 < n) :
    Calls Try.prog 8 #[mV m, .slice A n c] w fun e w' => e = .returned (.bool true) ∧ Ext w w' := by
  have g : (1000 : Int) < (n : Int) := by omega
  obtain ⟨m1, m2⟩ := m
  clear h
  go_enter Try.func8, Try.ntmps8
  go_wp2_with fail
  refine (lives_any _).mono ?_
  rintro e w1 ⟨rfl, he1⟩
  go_wp2
  go_ret
  exact ⟨rfl, ((Ext.refl _).alloc _).trans he1⟩

set_option maxRecDepth 100000 in
set_option maxHeartbeats 1000000 in
theorem momentCodes_any (m : Mom.M) (v : Value) (b : List UInt8) (w : World) (hb : RB w v b) (hl : b.length ≤ 1000) :
    Calls Try.prog 8 #[mV m, v] w fun e w' => e = .returned (.bool true) ∧ Ext w w' := by
  obtain ⟨A, c, rfl⟩ := hb.form
  have g : ¬ (1000 : Int) < (b.length : Int) := by omega
  have HB := Lib.hid hb
  have HL := Lib.hid hl
  have HCL := Lib.hid (code_len m)
  have HPUT := Lib.hid (fun w => mput_all m w)
  have HRPUT := Lib.hid (fun w h => rmput_all m w h)
  have HCHK := Lib.hid (fun w => rcheck_any m w)
  have HCR := Lib.hid (fun h => code_read m h)
  have HE0 := Lib.hid (show Mom.ok m = true → codeE m = 0 from fun h => by unfold codeE; rw [if_pos h])
  have HE1 := Lib.hid (show Mom.ok m = false → codeE m = 40 ∧ codeL m = [] from fun h => by unfold codeE codeL; rw [h]; exact ⟨rfl, rfl⟩)
  have HRD := Lib.hid (fun g w h0 => mread_any g ⟨b, false⟩ w h0 (by simp only; omega))
  have HRR := Lib.hid (fun g w h0 => rread_any g ⟨b, false⟩ w h0 (by simp only; omega))
  have HRC := Lib.hid (fun g w h0 => mread_any g ⟨codeL m, false⟩ w h0 (by have := HCL.out; simp only; omega))
  unfold ReadPost at HRD HRR HRC
  generalize readE ⟨b, false⟩ = er at *
  generalize readV ⟨b, false⟩ = x at *
  generalize readE ⟨codeL m, false⟩ = ec at *
  generalize readV ⟨codeL m, false⟩ = z at *
  generalize codeL m = cl at *
  generalize codeE m = ce at *
  generalize Mom.ok m = k at *
  obtain ⟨m1, m2⟩ := m
  obtain ⟨x1, x2⟩ := x
  obtain ⟨z1, z2⟩ := z
  have HB0 := Lib.hid (Blk.new w 23 #[.int .i64 m1, .int .i64 m2])
  have HX0 := Lib.hid ((Ext.refl w).alloc (.cells #[.int .i64 m1, .int .i64 m2] 23))
  have c0 : (w.alloc (.cells #[.int .i64 m1, .int .i64 m2] 23)).cell? ⟨w.heap.size, 0, none⟩ = some (.int .i64 m1) := HB0.out.cell 0
  have c1 : (w.alloc (.cells #[.int .i64 m1, .int .i64 m2] 23)).cell? ⟨w.heap.size, 1, none⟩ = some (.int .i64 m2) := HB0.out.cell 1
  clear hb hl
  go_enter Try.func8, Try.ntmps8
  go_wp2_with fail
  refine (HPUT.out _).mono ?_
  rintro e w1 ⟨u, rfl, ho1, he1⟩
  obtain ⟨A1, k1, rfl⟩ := ho1.form
  have HO1 := Lib.hid ho1.rb
  have HX1 := Lib.hid (HX0.out.trans he1)
  have HB1 := Lib.hid (HB0.out.ext he1)
  clear ho1 he1 HB0 HX0 c0 c1
  go_wp2_with fail
  refine (from_any _ b w1 (HB.out.ext HX1.out) (by have := HL.out; omega)).mono ?_
  rintro e w2 ⟨g, rfl, hr2, he2, hg2⟩
  have HR2 := Lib.hid hr2
  clear hr2
  go_wp2_with fail
  refine (HRD.out g _ HR2.out).mono ?_
  rintro e w3 ⟨rfl, he3⟩
  have hx3 : Ext w1 w3 := he2.andG he3 hg2
  have HX3 := Lib.hid (HX1.out.trans hx3)
  have HB3 := Lib.hid (HB1.out.ext hx3)
  have HO3 := Lib.hid (HO1.out.ext hx3)
  clear he2 hg2 he3 hx3 HB1 HO1 HX1 HR2
  go_upto_region 5 with fail
  obtain ⟨q, hq⟩ : ∃ q, w3.heap.size = q := ⟨_, rfl⟩
  have hal : Ext w3 (w3.alloc (.cells #[.int .i64 x1, .int .i64 x2] 23)) := (Ext.refl _).alloc _
  have HX4 := Lib.hid (HX3.out.trans hal)
  have HB4 := Lib.hid (HB3.out.ext hal)
  have HO4 := Lib.hid (HO3.out.ext hal)
  have HQ4 := Lib.hid (Blk.new w3 23 #[.int .i64 x1, .int .i64 x2])
  rw [hq] at HQ4 ⊢
  generalize w3.alloc (.cells #[.int .i64 x1, .int .i64 x2] 23) = w4 at *
  clear hal HX3 HB3 HO3 hq
  go_wp2_with (refine wpList_appBB rfl elemB w4 _ (.tmp 31) (.tmp 32) rfl _ [] rfl (OB.emptyL w4 _) ((Ext.refl w4).alloc _) _ b rfl ((HB.out.ext HX4.out).ext ((Ext.refl w4).alloc _)) (by have := HL.out; simp; omega) ?_; intro v5 w5 ho5 he5 hg5; rw [List.nil_append] at ho5; obtain ⟨A5, c5, rfl⟩ := ho5.form; have HO5 := Lib.hid ho5; have HE5 := Lib.hid he5; clear ho5 he5 hg5)
  have hrr : RR (w5.alloc (.cells #[.slice A5 b.length c5, .bool false] 58)) w5.heap.size ⟨b, false⟩ := ⟨A5, c5, Blk.new _ _ _, HO5.out.rb.ext ((Ext.refl _).alloc _)⟩
  refine (HRR.out _ _ hrr).mono ?_
  rintro e w6 ⟨rfl, he6⟩
  have hx6 : Ext w4 w6 := (HE5.out.alloc _).andG he6 HE5.out.size
  have HX6 := Lib.hid (HX4.out.trans hx6)
  have HB6 := Lib.hid (HB4.out.ext hx6)
  have HO6 := Lib.hid (HO4.out.ext hx6)
  have HQ6 := Lib.hid (HQ4.out.ext hx6)
  clear hrr hx6 he6 HX4 HB4 HO4 HQ4 HE5 HO5
  go_upto_region 6 with fail
  obtain ⟨p, hp⟩ : ∃ p, w6.heap.size = p := ⟨_, rfl⟩
  have hal : Ext w6 (w6.alloc (.cells #[.int .i64 x1, .int .i64 x2] 23)) := (Ext.refl _).alloc _
  have HX7 := Lib.hid (HX6.out.trans hal)
  have HB7 := Lib.hid (HB6.out.ext hal)
  have HO7 := Lib.hid (HO6.out.ext hal)
  have HQ7 := Lib.hid (HQ6.out.ext hal)
  have HP7 := Lib.hid (Blk.new w6 23 #[.int .i64 x1, .int .i64 x2])
  rw [hp] at HP7 ⊢
  generalize w6.alloc (.cells #[.int .i64 x1, .int .i64 x2] 23) = w7 at *
  clear hal HX6 HB6 HO6 HQ6 hp
  go_wp2_with fail
  refine (mread_nil _).mono ?_
  rintro e w8 ⟨rfl, he8⟩
  go_upto_region 7 with fail
  have hal : Ext w7 (w8.alloc (.cells #[.int .i64 0, .int .i64 0] 23)) := he8.alloc _
  have HX9 := Lib.hid (HX7.out.trans hal)
  have HB9 := Lib.hid (HB7.out.ext hal)
  have HO9 := Lib.hid (HO7.out.ext hal)
  have HQ9 := Lib.hid (HQ7.out.ext hal)
  have HP9 := Lib.hid (HP7.out.ext hal)
  generalize w8.heap.size = o at *
  generalize w8.alloc (.cells #[.int .i64 0, .int .i64 0] 23) = w9 at *
  clear hal HX7 HB7 HO7 HQ7 HP7 he8
  go_wp2_with fail
  refine (lives_any _).mono ?_
  rintro e w10 ⟨rfl, he10⟩
  have HX10 := Lib.hid (HX9.out.trans he10)
  have HO10 := Lib.hid (HO9.out.ext he10)
  have HB10 := Lib.hid (HB9.out.ext he10)
  have c0 := (HQ9.out.ext he10).cell 0
  have c1 := (HQ9.out.ext he10).cell 1
  have d0 := (HP9.out.ext he10).cell 0
  have d1 := (HP9.out.ext he10).cell 1
  have b0 := HB10.out.cell 0
  have b1 := HB10.out.cell 1
  have hN := neM
  have hG := guardM
  have hpt : pairB x1 x2 x1 x2 = true := pairB_t rfl
  clear he10 HX9 HB9 HO9 HQ9 HP9
  go_upto_region 9 with fail
  go_wp2_with fail
  refine (HCHK.out _).mono ?_
  rintro e w11 ⟨rfl, he11⟩
  have HX11 := Lib.hid (HX10.out.trans he11)
  have HO11 := Lib.hid (HO10.out.ext he11)
  have HB11 := Lib.hid (HB10.out.ext he11)
  clear c0 c1 d0 d1 b0 b1 hpt he11 HX10 HO10 HB10
  cases k with
  | false =>
    obtain ⟨rfl, rfl⟩ := HE1.out rfl
    go_wp2
    go_ret
    exact ⟨rfl, HX11.out⟩
  | true =>
    obtain rfl := HE0.out rfl
    obtain ⟨hz, rfl⟩ := HCR.out rfl
    obtain ⟨rfl, rfl⟩ : z1 = m1 ∧ z2 = m2 := by injection hz with h1 h2; exact ⟨h1, h2⟩
    clear hz
    go_wp2_with fail
    refine (from_any _ cl w11 HO11.out (by have := HCL.out; omega)).mono ?_
    rintro e w12 ⟨g2, rfl, hr12, he12, hg12⟩
    have HR12 := Lib.hid hr12
    clear hr12
    go_wp2_with fail
    refine (HRC.out g2 _ HR12.out).mono ?_
    rintro e w13 ⟨rfl, he13⟩
    have hx13 : Ext w11 w13 := he12.andG he13 hg12
    go_upto_region 12 with fail
    have hal : Ext w11 (w13.alloc (.cells #[.int .i64 z1, .int .i64 z2] 23)) := hx13.alloc _
    obtain ⟨r, hr⟩ : ∃ r, w13.heap.size = r := ⟨_, rfl⟩
    have HX14 := Lib.hid (HX11.out.trans hal)
    have HO14 := Lib.hid (HO11.out.ext hal)
    have HB14 := Lib.hid (HB11.out.ext hal)
    have HZ14 := Lib.hid (Blk.new w13 23 #[.int .i64 z1, .int .i64 z2])
    rw [hr] at HZ14 ⊢
    generalize w13.alloc (.cells #[.int .i64 z1, .int .i64 z2] 23) = w14 at *
    clear hal hx13 he12 he13 HR12 hg12 HX11 HO11 HB11
    have c0 := HB14.out.cell 0
    have c1 := HB14.out.cell 1
    have d0 := HZ14.out.cell 0
    have d1 := HZ14.out.cell 1
    have hE := eqM
    have hpt : pairB z1 z2 z1 z2 = true := pairB_t rfl
    go_wp2
    refine wp_region_ext (by kernel_rfl) (by rfl) (by rfl) (by kernel_rfl) ?_
    repeat (first | ((first | (refine wpM_move00 Ext.refl rfl rfl rfl ?_) | (refine wpM_move01 Ext.refl rfl rfl rfl rfl ?_)); apply Exists.intro; refine ⟨?_, ?_⟩; · (go_simp; rfl)) | (first | (refine wpM_movek0 Ext.refl rfl rfl rfl ?_) | (refine wpM_movek1 Ext.refl rfl rfl rfl rfl ?_)) | ((first | (refine wpM_val0 Ext.refl rfl ?_) | (refine wpM_val1 Ext.refl rfl rfl ?_)); apply Exists.intro; refine ⟨?_, ?_⟩; · (intro a w' hR; intro h1; (first | (have e1 : _ = _ := h1) | skip); intro h2; (first | (have e2 : _ = _ := h2) | skip); go_simp; rfl)) | ((first | (refine wpM_val0 Ext.refl rfl ?_) | (refine wpM_val1 Ext.refl rfl rfl ?_)); apply Exists.intro; refine ⟨?_, ?_⟩; · (intro a w' hR; intro h1; (first | (have e1 : _ = _ := h1) | skip); go_simp; rfl)) | ((first | (refine wpM_val0 Ext.refl rfl ?_) | (refine wpM_val1 Ext.refl rfl rfl ?_)); apply Exists.intro; refine ⟨?_, ?_⟩; · (intro a w' hR; go_simp; rfl)) | ((first | (refine wpM_val0 Ext.refl rfl ?_) | (refine wpM_val1 Ext.refl rfl rfl ?_)); apply Exists.intro; refine ⟨?_, ?_⟩; · (intro a w' hR; intro h1; (first | (have e1 : _ = _ := h1) | skip); intro h2; (first | (have e2 : _ = _ := h2) | skip); intro h3; (first | (have e3 : _ = _ := h3) | skip); go_simp; rfl)) | (refine wpM_skip1 rfl ?_))
    (first | (refine wpM_val0 Ext.refl rfl ?_) | (refine wpM_val1 Ext.refl rfl rfl ?_)); apply Exists.intro; refine ⟨?_, ?_⟩
    · intro a w' hR h1
      have e1 : _ = _ := h1
      have hs := strB (HO14.out.ext hR)
      go_simp
      rfl
    repeat (first | ((first | (refine wpM_move00 Ext.refl rfl rfl rfl ?_) | (refine wpM_move01 Ext.refl rfl rfl rfl rfl ?_)); apply Exists.intro; refine ⟨?_, ?_⟩; · (go_simp; rfl)) | (first | (refine wpM_movek0 Ext.refl rfl rfl rfl ?_) | (refine wpM_movek1 Ext.refl rfl rfl rfl rfl ?_)) | ((first | (refine wpM_val0 Ext.refl rfl ?_) | (refine wpM_val1 Ext.refl rfl rfl ?_)); apply Exists.intro; refine ⟨?_, ?_⟩; · (intro a w' hR; intro h1; (first | (have e1 : _ = _ := h1) | skip); intro h2; (first | (have e2 : _ = _ := h2) | skip); go_simp; rfl)) | ((first | (refine wpM_val0 Ext.refl rfl ?_) | (refine wpM_val1 Ext.refl rfl rfl ?_)); apply Exists.intro; refine ⟨?_, ?_⟩; · (intro a w' hR; intro h1; (first | (have e1 : _ = _ := h1) | skip); go_simp; rfl)) | ((first | (refine wpM_val0 Ext.refl rfl ?_) | (refine wpM_val1 Ext.refl rfl rfl ?_)); apply Exists.intro; refine ⟨?_, ?_⟩; · (intro a w' hR; go_simp; rfl)) | ((first | (refine wpM_val0 Ext.refl rfl ?_) | (refine wpM_val1 Ext.refl rfl rfl ?_)); apply Exists.intro; refine ⟨?_, ?_⟩; · (intro a w' hR; intro h1; (first | (have e1 : _ = _ := h1) | skip); intro h2; (first | (have e2 : _ = _ := h2) | skip); intro h3; (first | (have e3 : _ = _ := h3) | skip); go_simp; rfl)) | (refine wpM_skip1 rfl ?_))
    (first | (refine wpM_val0 Ext.refl rfl ?_) | (refine wpM_val1 Ext.refl rfl rfl ?_)); apply Exists.intro; refine ⟨?_, ?_⟩
    · intro a w' hR h1
      have e1 : _ = _ := h1
      have hl0 := hR.cell c0
      have hl1 := hR.cell c1
      go_simp
      rfl
    first | (refine wpM_call0 (fun v w2 => RB w2 v cl) rfl (by first | exact mono_eq | exact (fun _ _ _ ⟨n, h1, h2, h3⟩ k => ⟨n, h1, h2, h3.ext k⟩) | exact (fun _ _ _ h k => RB.ext h k) | exact (fun _ _ _ h k => OB.ext h k) | exact (fun _ _ _ h k => Rd.ext h k) | exact (fun _ _ _ h k => ownsRow_ext h k) | exact (fun _ _ _ h k => RB.extC h k) | exact (fun _ _ _ h k => FB.extC h k) | exact (fun _ _ _ h k => Rd.extC h k)) ?_ ?_) | (refine wpM_call1 (fun v w2 => RB w2 v cl) rfl rfl (by first | exact mono_eq | exact (fun _ _ _ ⟨n, h1, h2, h3⟩ k => ⟨n, h1, h2, h3.ext k⟩) | exact (fun _ _ _ h k => RB.ext h k) | exact (fun _ _ _ h k => OB.ext h k) | exact (fun _ _ _ h k => Rd.ext h k) | exact (fun _ _ _ h k => ownsRow_ext h k) | exact (fun _ _ _ h k => RB.extC h k) | exact (fun _ _ _ h k => FB.extC h k) | exact (fun _ _ _ h k => Rd.extC h k)) ?_ ?_)
    · intro a w' hR h1 K hK
      have e1 : _ = _ := h1
      go_simp
      refine (HRPUT.out w' trivial).mono ?_
      rintro e w2 ⟨v, rfl, ho, he⟩
      exact hK _ _ he ho.rb
    (first | (refine wpM_val0 Ext.refl rfl ?_) | (refine wpM_val1 Ext.refl rfl rfl ?_)); apply Exists.intro; refine ⟨?_, ?_⟩
    · intro a w' hR h1
      obtain ⟨x, ex, fx⟩ : ∃ x, a.tmps.getD 81 undef = x ∧ (fun v w2 => RB w2 v cl) x w' := ⟨_, rfl, h1⟩
      have hs := strB (fx)
      go_simp
      rfl
    repeat (first | ((first | (refine wpM_move00 Ext.refl rfl rfl rfl ?_) | (refine wpM_move01 Ext.refl rfl rfl rfl rfl ?_)); apply Exists.intro; refine ⟨?_, ?_⟩; · (go_simp; rfl)) | (first | (refine wpM_movek0 Ext.refl rfl rfl rfl ?_) | (refine wpM_movek1 Ext.refl rfl rfl rfl rfl ?_)) | ((first | (refine wpM_val0 Ext.refl rfl ?_) | (refine wpM_val1 Ext.refl rfl rfl ?_)); apply Exists.intro; refine ⟨?_, ?_⟩; · (intro a w' hR; intro h1; (first | (have e1 : _ = _ := h1) | skip); intro h2; (first | (have e2 : _ = _ := h2) | skip); go_simp; rfl)) | ((first | (refine wpM_val0 Ext.refl rfl ?_) | (refine wpM_val1 Ext.refl rfl rfl ?_)); apply Exists.intro; refine ⟨?_, ?_⟩; · (intro a w' hR; intro h1; (first | (have e1 : _ = _ := h1) | skip); go_simp; rfl)) | ((first | (refine wpM_val0 Ext.refl rfl ?_) | (refine wpM_val1 Ext.refl rfl rfl ?_)); apply Exists.intro; refine ⟨?_, ?_⟩; · (intro a w' hR; go_simp; rfl)) | ((first | (refine wpM_val0 Ext.refl rfl ?_) | (refine wpM_val1 Ext.refl rfl rfl ?_)); apply Exists.intro; refine ⟨?_, ?_⟩; · (intro a w' hR; intro h1; (first | (have e1 : _ = _ := h1) | skip); intro h2; (first | (have e2 : _ = _ := h2) | skip); intro h3; (first | (have e3 : _ = _ := h3) | skip); go_simp; rfl)) | (refine wpM_skip1 rfl ?_))
    first | (refine wpM_val0 Ext.refl rfl ?_) | (refine wpM_val1 Ext.refl rfl rfl ?_)
    apply Exists.intro; refine ⟨?_, ?_⟩
    · intro a w' hR h1
      have e1 : _ = _ := h1
      have hl0 := hR.cell d0
      have hl1 := hR.cell d1
      go_simp
      rfl
    (first | (refine wpM_val0 Ext.refl rfl ?_) | (refine wpM_val1 Ext.refl rfl rfl ?_)); apply Exists.intro; refine ⟨?_, ?_⟩
    · intro a w' hR h1
      have e1 : _ = _ := h1
      have hl0 := hR.cell c0
      have hl1 := hR.cell c1
      go_simp
      rfl
    repeat (first | ((first | (refine wpM_move00 Ext.refl rfl rfl rfl ?_) | (refine wpM_move01 Ext.refl rfl rfl rfl rfl ?_)); apply Exists.intro; refine ⟨?_, ?_⟩; · (go_simp; rfl)) | (first | (refine wpM_movek0 Ext.refl rfl rfl rfl ?_) | (refine wpM_movek1 Ext.refl rfl rfl rfl rfl ?_)) | ((first | (refine wpM_val0 Ext.refl rfl ?_) | (refine wpM_val1 Ext.refl rfl rfl ?_)); apply Exists.intro; refine ⟨?_, ?_⟩; · (intro a w' hR; intro h1; (first | (have e1 : _ = _ := h1) | skip); intro h2; (first | (have e2 : _ = _ := h2) | skip); go_simp; rfl)) | ((first | (refine wpM_val0 Ext.refl rfl ?_) | (refine wpM_val1 Ext.refl rfl rfl ?_)); apply Exists.intro; refine ⟨?_, ?_⟩; · (intro a w' hR; intro h1; (first | (have e1 : _ = _ := h1) | skip); go_simp; rfl)) | ((first | (refine wpM_val0 Ext.refl rfl ?_) | (refine wpM_val1 Ext.refl rfl rfl ?_)); apply Exists.intro; refine ⟨?_, ?_⟩; · (intro a w' hR; go_simp; rfl)) | ((first | (refine wpM_val0 Ext.refl rfl ?_) | (refine wpM_val1 Ext.refl rfl rfl ?_)); apply Exists.intro; refine ⟨?_, ?_⟩; · (intro a w' hR; intro h1; (first | (have e1 : _ = _ := h1) | skip); intro h2; (first | (have e2 : _ = _ := h2) | skip); intro h3; (first | (have e3 : _ = _ := h3) | skip); go_simp; rfl)) | (refine wpM_skip1 rfl ?_))
    refine wpM_done ?_
    intro w15 hx15
    iterate 6 (rintro _ rfl)
    rintro v81 h81
    iterate 13 (rintro _ rfl)
    dsimp only [FinV]
    go_simp
    have HX15 := Lib.hid (HX14.out.trans hx15)
    clear hx15 h81
    go_wp2
    go_ret
    exact ⟨rfl, HX15.out⟩

theorem momentCodes_law (w : World) (v : Value) (m : Mom.M) (hv : v = mV m) (u : Value) (b : List UInt8) (hu : RB w u b) :
    Calls Try.prog 8 #[v, u] w fun e w' => e = .returned (.bool true) ∧ Ext w w' := by
  subst hv
  by_cases h : b.length ≤ 1000
  · exact momentCodes_any m u b w hu h
  · obtain ⟨A, c, rfl⟩ := hu.form
    exact momentCodes_long m b.length c A w (by omega)
end Go.Proofs.Ytbcbhcohfbkijaa
