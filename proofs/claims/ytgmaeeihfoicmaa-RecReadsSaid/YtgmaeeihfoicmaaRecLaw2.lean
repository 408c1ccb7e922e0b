/-
  The walks of RecCodes and RecReads.
-/
import Derived.Test.YtgmaeeihfoicmaaRecLaw1
import Derived.Test.YtgmaeeihfoicmaaCopy
namespace Go.Proofs.Ytgmaeeihfoicmaa
open Go.RowKit Go.Ox Go.Shelf Go.Op
open Go.Ox.Rec (when0 when0_ok when0_no readM readS readE readV)
attribute [local irreducible] OP RP OB RB
set_option linter.unusedVariables false
set_option linter.unusedSimpArgs false

theorem read_put {r : Rec.R} (h : Rec.ok r = true) : readV ⟨Rec.recL r, false⟩ = r ∧ readE ⟨Rec.recL r, false⟩ = 0 := by
  have := Rec.read_app h []
  rw [List.append_nil] at this
  exact this.2
theorem renc_rb (v : Value) (l : List Rec.R) (w : World) (hv : RP w v l) (hm : Rec.may l = 0) :
    Calls Try.prog 20 #[v] w fun e w' => ∃ u, e = .returned u ∧ RB w' u (Rec.encL l) ∧ Ext w w' :=
  (renc_any v l w hv hm).mono fun _ _ ⟨u, h1, h2, h3⟩ => ⟨u, h1, h2.rb, h3⟩
theorem rmput_rb (r : Rec.R) (w : World) (h : Rec.ok r = true) : Calls Try.prog 18 #[mV r] w fun e w' => ∃ u, e = .returned u ∧ RB w' u (Rec.recL r) ∧ Ext w w' :=
  (rmput_rec r w h).mono fun _ _ ⟨u, h1, h2, h3⟩ => ⟨u, h1, h2.rb, h3⟩

theorem check_e (r : Rec.R) (w : World) : Calls Try.prog 14 #[mV r] w fun e w' => e = .returned (.int .i64 (Rec.putE r)) ∧ Ext w w' := check_any r w
set_option maxRecDepth 100000 in
set_option maxHeartbeats 400000 in
theorem recCodes_long (r : Rec.R) (n c : Nat) (A : Option Addr) (w : World) (h : 5000 < n) :
    Calls Try.prog 3 #[mV r, .slice A n c] w fun e w' => e = .returned (.bool true) ∧ Ext w w' := by
  have HL := Lib.hid (fun w => large_is A n c w true (by simpa using h))
  obtain ⟨m1, m2⟩ := r
  clear h
  go_enter Try.func3, Try.ntmps3
  go_wp2_with fail
  refine (HL.out _).mono ?_
  rintro e w' ⟨rfl, rfl⟩
  go_wp2_with fail
  refine (lives_any _).mono ?_
  rintro e w1 ⟨rfl, he1⟩
  go_wp2
  go_ret
  exact ⟨rfl, ((Ext.refl _).alloc _).trans he1⟩

set_option maxRecDepth 100000 in
set_option maxHeartbeats 4000000 in
theorem recCodes_any (r : Rec.R) (v : Value) (l : List Rec.R) (w : World) (hv : RP w v l) (hl : l.length ≤ 5000) :
    Calls Try.prog 3 #[mV r, v] w fun e w' => e = .returned (.bool true) ∧ Ext w w' := by
  have HV := Lib.hid hv
  have HENC := Lib.hid (fun w h => enc_all v l w h (by omega))
  have HRM := Lib.hid (fun w h => rmay_any v l w h (by omega))
  have HRS := Lib.hid (fun w h => rsort_any l v w h (by omega))
  have HRE := Lib.hid (fun w h k => renc_rb v l w h k)
  obtain ⟨A, c, rfl⟩ := hv.form
  have HLG := Lib.hid (fun w => large_is A l.length c w false (by simp; omega))
  have HPUT := Lib.hid (fun w => mput_all r w)
  have HRPUT := Lib.hid (fun w h => rmput_rb r w h)
  have HRC := Lib.hid (fun w => rcheck_any r w)
  have HCK := Lib.hid (fun w => check_e r w)
  have HE0 := Lib.hid (show Rec.ok r = true → Rec.putE r = 0 from fun h => by unfold Rec.putE; rw [if_pos h])
  have HE1 := Lib.hid (show Rec.ok r = false → Rec.putE r = 30 from fun h => by unfold Rec.putE; rw [if_neg (by simp [h])])
  have HRD := Lib.hid (fun h => @read_put r h)
  have HRL := Lib.hid (fun h => @Rec.recL_len r h)
  have HDC := Lib.hid (fun h => Rec.dec_yes (@Rec.enc_dec l h))
  have HEL := Lib.hid (fun h => @Rec.enc_len l h)
  have HLEN := Lib.hid hl
  clear hv hl
  generalize Rec.putE r = pe at *
  generalize Rec.srt l = S at *
  generalize Rec.encL l = cl at *
  generalize Rec.may l = f at *
  generalize hok : Rec.ok r = k at *
  have HOK := Lib.hid hok
  clear hok
  obtain ⟨m1, m2⟩ := r
  have HB0 := Lib.hid (Bx.new w 23 m1 m2)
  have HX0 := Lib.hid ((Ext.refl w).alloc (.cells #[.int .i64 m1, .int .i64 m2] 23))
  have hff : (f != f) = false := by simp
  go_enter Try.func3, Try.ntmps3
  go_upto_region 1 with fail
  have HV0 := Lib.hid (HV.out.ext HX0.out)
  generalize w.heap.size = p at *
  generalize w.alloc (.cells #[.int .i64 m1, .int .i64 m2] 23) = w0 at *
  obtain ⟨c0, c1⟩ := HB0.out
  go_wp2_with fail
  refine (HLG.out _).mono ?_
  rintro e w' ⟨rfl, rfl⟩
  go_wp2_with fail
  refine (HPUT.out _).mono ?_
  rintro e w1 ⟨u1, rfl, ho1, he1⟩
  have HO1 := Lib.hid ho1
  obtain ⟨A1, k1, rfl⟩ := ho1.form
  have HV1 := Lib.hid (HV0.out.ext he1)
  have HB1 := Lib.hid (HB0.out.ext he1)
  have HX1 := Lib.hid (HX0.out.trans he1)
  clear ho1 he1 HV0 HB0 HX0 c0 c1 HPUT
  go_wp2_with fail
  refine (HENC.out _ HV1.out).mono ?_
  rintro e w2 ⟨u2, rfl, ho2, he2⟩
  have HP2 := Lib.hid ho2
  obtain ⟨A2, k2, rfl⟩ := ho2.form
  have HO2 := Lib.hid (HO1.out.ext he2)
  have HV2 := Lib.hid (HV1.out.ext he2)
  have HB2 := Lib.hid (HB1.out.ext he2)
  have HX2 := Lib.hid (HX1.out.trans he2)
  clear ho2 he2 HV1 HB1 HX1 HENC HO1
  go_wp2_with fail
  refine (lives_any _).mono ?_
  rintro e w3 ⟨rfl, he3⟩
  have HP3 := Lib.hid (HP2.out.ext he3)
  have HO3 := Lib.hid (HO2.out.ext he3)
  have HV3 := Lib.hid (HV2.out.ext he3)
  have HB3 := Lib.hid (HB2.out.ext he3)
  have HX3 := Lib.hid (HX2.out.trans he3)
  clear he3 HP2 HO2 HV2 HB2 HX2
  obtain ⟨c0, c1⟩ := HB3.out
  cases k with
  | false =>
    obtain rfl := HE1.out rfl
    clear HO3
    go_wp2_with fail
    refine (HRC.out _).mono ?_
    rintro e w4 ⟨rfl, he4⟩
    have c0 := he4.cell c0
    have c1 := he4.cell c1
    have HP4 := Lib.hid (HP3.out.ext he4)
    have HV4 := Lib.hid (HV3.out.ext he4)
    have HX4 := Lib.hid (HX3.out.trans he4)
    clear he4 HP3 HV3 HX3 HB3
    go_wp2_with fail
    refine (HCK.out _).mono ?_
    rintro e w5 ⟨rfl, he5⟩
    have HP5 := Lib.hid (HP4.out.ext he5)
    have HV5 := Lib.hid (HV4.out.ext he5)
    have HX5 := Lib.hid (HX4.out.trans he5)
    clear he5 HP4 HV4 HX4 c0 c1
    go_wp2_with fail
    refine (HRM.out _ HV5.out).mono ?_
    rintro e w6 ⟨rfl, he6⟩
    have HP6 := Lib.hid (HP5.out.ext he6)
    have HV6 := Lib.hid (HV5.out.ext he6)
    have HX6 := Lib.hid (HX5.out.trans he6)
    clear he6 HP5 HV5 HX5
    go_upto_region 13 with fail
    by_cases hf : f = 0
    · subst hf
      have HP6 := Lib.hid (show RB w6 (.slice A2 cl.length k2) cl by have := HP6.out; rw [when0_ok rfl] at this; exact this)
      obtain ⟨q1, q2⟩ := HDC.out rfl
      have HDEC := Lib.hid (dec_any _ cl w6 HP6.out (by have := HEL.out rfl; have := HLEN.out; omega))
      rw [q2, q1] at HDEC
      rw [when0_ok rfl]
      have HRE2 := Lib.hid (fun w h => HRE.out w h rfl)
      clear q1 q2 HEL HDC
      go_wp2_with fail
      refine HDEC.out.mono ?_
      rintro e w11 ⟨u11, rfl, ho11, he11⟩
      have HD11 := Lib.hid ho11.rp
      have HP11 := Lib.hid (HP6.out.ext he11)
      have HV11 := Lib.hid (HV6.out.ext he11)
      have HX11 := Lib.hid (HX6.out.trans he11)
      clear ho11 he11
      go_upto_region 16 with fail
      refine wp_region_ext (by kernel_rfl) (by rfl) (by rfl) (by kernel_rfl) ?_
      repeat (first | ((first | (refine wpM_move00 Ext.refl rfl rfl rfl ?_) | (refine wpM_move01 Ext.refl rfl rfl rfl rfl ?_)); apply Exists.intro; refine ⟨?_, ?_⟩; · (go_simp; rfl)) | (first | (refine wpM_movek0 Ext.refl rfl rfl rfl ?_) | (refine wpM_movek1 Ext.refl rfl rfl rfl rfl ?_)) | ((first | (refine wpM_val0 Ext.refl rfl ?_) | (refine wpM_val1 Ext.refl rfl rfl ?_)); apply Exists.intro; refine ⟨?_, ?_⟩; · (intro a w' hR; intro h1; (first | (have e1 : _ = _ := h1) | skip); intro h2; (first | (have e2 : _ = _ := h2) | skip); go_simp; rfl)) | ((first | (refine wpM_val0 Ext.refl rfl ?_) | (refine wpM_val1 Ext.refl rfl rfl ?_)); apply Exists.intro; refine ⟨?_, ?_⟩; · (intro a w' hR; intro h1; (first | (have e1 : _ = _ := h1) | skip); go_simp; rfl)) | ((first | (refine wpM_val0 Ext.refl rfl ?_) | (refine wpM_val1 Ext.refl rfl rfl ?_)); apply Exists.intro; refine ⟨?_, ?_⟩; · (intro a w' hR; go_simp; rfl)) | ((first | (refine wpM_val0 Ext.refl rfl ?_) | (refine wpM_val1 Ext.refl rfl rfl ?_)); apply Exists.intro; refine ⟨?_, ?_⟩; · (intro a w' hR; intro h1; (first | (have e1 : _ = _ := h1) | skip); intro h2; (first | (have e2 : _ = _ := h2) | skip); intro h3; (first | (have e3 : _ = _ := h3) | skip); go_simp; rfl)) | (refine wpM_skip1 rfl ?_) | (refine wpM_skipU rfl ?_))
      (first | (refine wpM_val0 Ext.refl rfl ?_) | (refine wpM_val1 Ext.refl rfl rfl ?_)); apply Exists.intro; refine ⟨?_, ?_⟩
      · intro a w' hR h1
        have e1 : _ = _ := h1
        have hs := strB (HP11.out.ext hR)
        go_simp
        rfl
      repeat (first | ((first | (refine wpM_move00 Ext.refl rfl rfl rfl ?_) | (refine wpM_move01 Ext.refl rfl rfl rfl rfl ?_)); apply Exists.intro; refine ⟨?_, ?_⟩; · (go_simp; rfl)) | (first | (refine wpM_movek0 Ext.refl rfl rfl rfl ?_) | (refine wpM_movek1 Ext.refl rfl rfl rfl rfl ?_)) | ((first | (refine wpM_val0 Ext.refl rfl ?_) | (refine wpM_val1 Ext.refl rfl rfl ?_)); apply Exists.intro; refine ⟨?_, ?_⟩; · (intro a w' hR; intro h1; (first | (have e1 : _ = _ := h1) | skip); intro h2; (first | (have e2 : _ = _ := h2) | skip); go_simp; rfl)) | ((first | (refine wpM_val0 Ext.refl rfl ?_) | (refine wpM_val1 Ext.refl rfl rfl ?_)); apply Exists.intro; refine ⟨?_, ?_⟩; · (intro a w' hR; intro h1; (first | (have e1 : _ = _ := h1) | skip); go_simp; rfl)) | ((first | (refine wpM_val0 Ext.refl rfl ?_) | (refine wpM_val1 Ext.refl rfl rfl ?_)); apply Exists.intro; refine ⟨?_, ?_⟩; · (intro a w' hR; go_simp; rfl)) | ((first | (refine wpM_val0 Ext.refl rfl ?_) | (refine wpM_val1 Ext.refl rfl rfl ?_)); apply Exists.intro; refine ⟨?_, ?_⟩; · (intro a w' hR; intro h1; (first | (have e1 : _ = _ := h1) | skip); intro h2; (first | (have e2 : _ = _ := h2) | skip); intro h3; (first | (have e3 : _ = _ := h3) | skip); go_simp; rfl)) | (refine wpM_skip1 rfl ?_) | (refine wpM_skipU rfl ?_))
      first | (refine wpM_call0 (fun v w2 => RB w2 v cl) rfl (by first | exact mono_eq | exact (fun _ _ _ ⟨n, h1, h2, h3⟩ k => ⟨n, h1, h2, h3.ext k⟩) | exact (fun _ _ _ h k => RB.ext h k) | exact (fun _ _ _ h k => OB.ext h k) | exact (fun _ _ _ h k => Rd.ext h k) | exact (fun _ _ _ h k => ownsRow_ext h k) | exact (fun _ _ _ h k => RB.extC h k) | exact (fun _ _ _ h k => FB.extC h k) | exact (fun _ _ _ h k => Rd.extC h k) | exact (fun _ _ _ h k => RP.ext h k) | exact (fun _ _ _ h k => RE.ext h k)) ?_ ?_) | (refine wpM_call1 (fun v w2 => RB w2 v cl) rfl rfl (by first | exact mono_eq | exact (fun _ _ _ ⟨n, h1, h2, h3⟩ k => ⟨n, h1, h2, h3.ext k⟩) | exact (fun _ _ _ h k => RB.ext h k) | exact (fun _ _ _ h k => OB.ext h k) | exact (fun _ _ _ h k => Rd.ext h k) | exact (fun _ _ _ h k => ownsRow_ext h k) | exact (fun _ _ _ h k => RB.extC h k) | exact (fun _ _ _ h k => FB.extC h k) | exact (fun _ _ _ h k => Rd.extC h k) | exact (fun _ _ _ h k => RP.ext h k) | exact (fun _ _ _ h k => RE.ext h k)) ?_ ?_)
      · intro a w' hR h1 K hK
        have e1 : _ = _ := h1
        go_simp
        refine (HRE2.out w' (HV11.out.ext hR)).mono ?_
        rintro e w2 ⟨v, rfl, ho, he⟩
        exact hK _ _ he ho
      (first | (refine wpM_val0 Ext.refl rfl ?_) | (refine wpM_val1 Ext.refl rfl rfl ?_)); apply Exists.intro; refine ⟨?_, ?_⟩
      · intro a w' hR h1
        obtain ⟨x, ex, fx⟩ : ∃ x, a.tmps.getD 85 undef = x ∧ (fun v w2 => RB w2 v cl) x w' := ⟨_, rfl, h1⟩
        have hs := strB (fx)
        go_simp
        rfl
      repeat (first | ((first | (refine wpM_move00 Ext.refl rfl rfl rfl ?_) | (refine wpM_move01 Ext.refl rfl rfl rfl rfl ?_)); apply Exists.intro; refine ⟨?_, ?_⟩; · (go_simp; rfl)) | (first | (refine wpM_movek0 Ext.refl rfl rfl rfl ?_) | (refine wpM_movek1 Ext.refl rfl rfl rfl rfl ?_)) | ((first | (refine wpM_val0 Ext.refl rfl ?_) | (refine wpM_val1 Ext.refl rfl rfl ?_)); apply Exists.intro; refine ⟨?_, ?_⟩; · (intro a w' hR; intro h1; (first | (have e1 : _ = _ := h1) | skip); intro h2; (first | (have e2 : _ = _ := h2) | skip); go_simp; rfl)) | ((first | (refine wpM_val0 Ext.refl rfl ?_) | (refine wpM_val1 Ext.refl rfl rfl ?_)); apply Exists.intro; refine ⟨?_, ?_⟩; · (intro a w' hR; intro h1; (first | (have e1 : _ = _ := h1) | skip); go_simp; rfl)) | ((first | (refine wpM_val0 Ext.refl rfl ?_) | (refine wpM_val1 Ext.refl rfl rfl ?_)); apply Exists.intro; refine ⟨?_, ?_⟩; · (intro a w' hR; go_simp; rfl)) | ((first | (refine wpM_val0 Ext.refl rfl ?_) | (refine wpM_val1 Ext.refl rfl rfl ?_)); apply Exists.intro; refine ⟨?_, ?_⟩; · (intro a w' hR; intro h1; (first | (have e1 : _ = _ := h1) | skip); intro h2; (first | (have e2 : _ = _ := h2) | skip); intro h3; (first | (have e3 : _ = _ := h3) | skip); go_simp; rfl)) | (refine wpM_skip1 rfl ?_) | (refine wpM_skipU rfl ?_))
      first | (refine wpM_call0 (fun v w2 => RP w2 v S) rfl (by first | exact mono_eq | exact (fun _ _ _ ⟨n, h1, h2, h3⟩ k => ⟨n, h1, h2, h3.ext k⟩) | exact (fun _ _ _ h k => RB.ext h k) | exact (fun _ _ _ h k => OB.ext h k) | exact (fun _ _ _ h k => Rd.ext h k) | exact (fun _ _ _ h k => ownsRow_ext h k) | exact (fun _ _ _ h k => RB.extC h k) | exact (fun _ _ _ h k => FB.extC h k) | exact (fun _ _ _ h k => Rd.extC h k) | exact (fun _ _ _ h k => RP.ext h k) | exact (fun _ _ _ h k => RE.ext h k)) ?_ ?_) | (refine wpM_call1 (fun v w2 => RP w2 v S) rfl rfl (by first | exact mono_eq | exact (fun _ _ _ ⟨n, h1, h2, h3⟩ k => ⟨n, h1, h2, h3.ext k⟩) | exact (fun _ _ _ h k => RB.ext h k) | exact (fun _ _ _ h k => OB.ext h k) | exact (fun _ _ _ h k => Rd.ext h k) | exact (fun _ _ _ h k => ownsRow_ext h k) | exact (fun _ _ _ h k => RB.extC h k) | exact (fun _ _ _ h k => FB.extC h k) | exact (fun _ _ _ h k => Rd.extC h k) | exact (fun _ _ _ h k => RP.ext h k) | exact (fun _ _ _ h k => RE.ext h k)) ?_ ?_)
      · intro a w' hR h1 K hK
        have e1 : _ = _ := h1
        go_simp
        refine (HRS.out w' (HV11.out.ext hR)).mono ?_
        rintro e w2 ⟨v, rfl, ho, he⟩
        exact hK _ _ he ho.rp
      first | (refine wpM_call0 (fun v _ => v = .bool true) rfl (by first | exact mono_eq | exact (fun _ _ _ ⟨n, h1, h2, h3⟩ k => ⟨n, h1, h2, h3.ext k⟩) | exact (fun _ _ _ h k => RB.ext h k) | exact (fun _ _ _ h k => OB.ext h k) | exact (fun _ _ _ h k => Rd.ext h k) | exact (fun _ _ _ h k => ownsRow_ext h k) | exact (fun _ _ _ h k => RB.extC h k) | exact (fun _ _ _ h k => FB.extC h k) | exact (fun _ _ _ h k => Rd.extC h k) | exact (fun _ _ _ h k => RP.ext h k) | exact (fun _ _ _ h k => RE.ext h k)) ?_ ?_) | (refine wpM_call1 (fun v _ => v = .bool true) rfl rfl (by first | exact mono_eq | exact (fun _ _ _ ⟨n, h1, h2, h3⟩ k => ⟨n, h1, h2, h3.ext k⟩) | exact (fun _ _ _ h k => RB.ext h k) | exact (fun _ _ _ h k => OB.ext h k) | exact (fun _ _ _ h k => Rd.ext h k) | exact (fun _ _ _ h k => ownsRow_ext h k) | exact (fun _ _ _ h k => RB.extC h k) | exact (fun _ _ _ h k => FB.extC h k) | exact (fun _ _ _ h k => Rd.extC h k) | exact (fun _ _ _ h k => RP.ext h k) | exact (fun _ _ _ h k => RE.ext h k)) ?_ ?_)
      · intro a w' hR h1 h2 K hK
        have e1 : _ = _ := h1
        obtain ⟨x, ex, fx⟩ : ∃ x, a.tmps.getD 95 undef = x ∧ (fun v w2 => RP w2 v S) x w' := ⟨_, rfl, h2⟩
        go_simp
        refine (live_exact _ _ S S true w' (by simp) (HD11.out.ext hR) fx).mono ?_
        rintro e w2 ⟨rfl, he⟩
        exact hK _ _ he rfl
      repeat (first | ((first | (refine wpM_move00 Ext.refl rfl rfl rfl ?_) | (refine wpM_move01 Ext.refl rfl rfl rfl rfl ?_)); apply Exists.intro; refine ⟨?_, ?_⟩; · (go_simp; rfl)) | (first | (refine wpM_movek0 Ext.refl rfl rfl rfl ?_) | (refine wpM_movek1 Ext.refl rfl rfl rfl rfl ?_)) | ((first | (refine wpM_val0 Ext.refl rfl ?_) | (refine wpM_val1 Ext.refl rfl rfl ?_)); apply Exists.intro; refine ⟨?_, ?_⟩; · (intro a w' hR; intro h1; (first | (have e1 : _ = _ := h1) | skip); intro h2; (first | (have e2 : _ = _ := h2) | skip); go_simp; rfl)) | ((first | (refine wpM_val0 Ext.refl rfl ?_) | (refine wpM_val1 Ext.refl rfl rfl ?_)); apply Exists.intro; refine ⟨?_, ?_⟩; · (intro a w' hR; intro h1; (first | (have e1 : _ = _ := h1) | skip); go_simp; rfl)) | ((first | (refine wpM_val0 Ext.refl rfl ?_) | (refine wpM_val1 Ext.refl rfl rfl ?_)); apply Exists.intro; refine ⟨?_, ?_⟩; · (intro a w' hR; go_simp; rfl)) | ((first | (refine wpM_val0 Ext.refl rfl ?_) | (refine wpM_val1 Ext.refl rfl rfl ?_)); apply Exists.intro; refine ⟨?_, ?_⟩; · (intro a w' hR; intro h1; (first | (have e1 : _ = _ := h1) | skip); intro h2; (first | (have e2 : _ = _ := h2) | skip); intro h3; (first | (have e3 : _ = _ := h3) | skip); go_simp; rfl)) | (refine wpM_skip1 rfl ?_) | (refine wpM_skipU rfl ?_))
      refine wpM_done ?_
      intro w12 hx12
      iterate 3 (rintro _ rfl)
      rintro v85 h85
      iterate 9 (rintro _ rfl)
      rintro v95 h95
      iterate 2 (rintro _ rfl)
      dsimp only [FinV]
      go_simp
      go_wp2
      go_ret
      exact ⟨rfl, HX11.out.trans hx12⟩
    · have hn : (f != 0) = true := by simpa using hf
      have hz : (when0 f cl).length = 0 := by rw [when0_no hf]; rfl
      generalize (when0 f cl).length = zn at *
      subst hz
      clear hf
      go_wp2
      go_ret
      exact ⟨rfl, HX6.out⟩
  | true =>
    obtain rfl := HE0.out rfl
    obtain ⟨hrv, hre⟩ := HRD.out rfl
    have HRD2 := Lib.hid (fun K g w (h : NR K w g ⟨Rec.recL (m1, m2), false⟩) hK => mread_any g ⟨Rec.recL (m1, m2), false⟩ w h (by have := HRL.out rfl; simp only; omega) hK)
    unfold ReadPost at HRD2
    rw [hrv, hre] at HRD2
    have HRL2 := Lib.hid (HRL.out rfl)
    have HRPUT2 := Lib.hid (fun w => HRPUT.out w rfl)
    rw [when0_ok rfl] at HO3 ⊢
    clear hrv hre HRD HRL HRPUT
    generalize Rec.recL (m1, m2) = rl at *
    go_wp2_with fail
    refine (HRC.out _).mono ?_
    rintro e w4 ⟨rfl, he4⟩
    have c0 := he4.cell c0
    have c1 := he4.cell c1
    have HP4 := Lib.hid (HP3.out.ext he4)
    have HO4 := Lib.hid (HO3.out.ext he4)
    have HV4 := Lib.hid (HV3.out.ext he4)
    have HX4 := Lib.hid (HX3.out.trans he4)
    clear he4 HP3 HV3 HX3 HB3 HO3
    go_wp2_with fail
    refine (HCK.out _).mono ?_
    rintro e w5 ⟨rfl, he5⟩
    have c0 := he5.cell c0
    have c1 := he5.cell c1
    have HP5 := Lib.hid (HP4.out.ext he5)
    have HO5 := Lib.hid (HO4.out.ext he5)
    have HV5 := Lib.hid (HV4.out.ext he5)
    have HX5 := Lib.hid (HX4.out.trans he5)
    clear he5 HP4 HV4 HX4 HO4
    go_wp2_with fail
    refine (HRM.out _ HV5.out).mono ?_
    rintro e w6 ⟨rfl, he6⟩
    have c0 := he6.cell c0
    have c1 := he6.cell c1
    have HP6 := Lib.hid (HP5.out.ext he6)
    have HO6 := Lib.hid (HO5.out.ext he6)
    have HV6 := Lib.hid (HV5.out.ext he6)
    have HX6 := Lib.hid (HX5.out.trans he6)
    clear he6 HP5 HV5 HX5 HO5
    go_wp2_with fail
    refine (from_any _ rl w6 HO6.out (by have := HRL2.out; omega)).mono ?_
    rintro e w7 ⟨g, rfl, hr7, he7, hg7⟩
    have HR7 := Lib.hid hr7
    have HE7 := Lib.hid he7
    have HG7 := Lib.hid hg7
    clear hr7 he7 hg7
    go_wp2_with fail
    refine (HRD2.out _ g _ HR7.out (fun b hb => hb)).mono ?_
    rintro e w8 ⟨rfl, hx8⟩
    have hx : Ext w6 (w8.alloc (.cells #[.int .i64 m1, .int .i64 m2] 23)) := (HE7.out.andG hx8.extG HG7.out).alloc _
    go_upto_region 9 with fail
    have c0 := hx.cell c0
    have c1 := hx.cell c1
    obtain ⟨d0, d1⟩ := Bx.new w8 23 m1 m2
    have HP9 := Lib.hid (HP6.out.ext hx)
    have HO9 := Lib.hid (HO6.out.ext hx)
    have HV9 := Lib.hid (HV6.out.ext hx)
    have HX9 := Lib.hid (HX6.out.trans hx)
    generalize w8.heap.size = q at *
    generalize w8.alloc (.cells #[.int .i64 m1, .int .i64 m2] 23) = w9 at *
    clear hx hx8 HP6 HO6 HV6 HX6 HE7 HG7 HR7
    have hE := neM
    have hG := guardM
    have hpt : pairB m1 m2 m1 m2 = true := pairB_t rfl
    refine wp_region_ext (by kernel_rfl) (by rfl) (by rfl) (by kernel_rfl) ?_
    repeat (first | ((first | (refine wpM_move00 Ext.refl rfl rfl rfl ?_) | (refine wpM_move01 Ext.refl rfl rfl rfl rfl ?_)); apply Exists.intro; refine ⟨?_, ?_⟩; · (go_simp; rfl)) | (first | (refine wpM_movek0 Ext.refl rfl rfl rfl ?_) | (refine wpM_movek1 Ext.refl rfl rfl rfl rfl ?_)) | ((first | (refine wpM_val0 Ext.refl rfl ?_) | (refine wpM_val1 Ext.refl rfl rfl ?_)); apply Exists.intro; refine ⟨?_, ?_⟩; · (intro a w' hR; intro h1; (first | (have e1 : _ = _ := h1) | skip); intro h2; (first | (have e2 : _ = _ := h2) | skip); go_simp; rfl)) | ((first | (refine wpM_val0 Ext.refl rfl ?_) | (refine wpM_val1 Ext.refl rfl rfl ?_)); apply Exists.intro; refine ⟨?_, ?_⟩; · (intro a w' hR; intro h1; (first | (have e1 : _ = _ := h1) | skip); go_simp; rfl)) | ((first | (refine wpM_val0 Ext.refl rfl ?_) | (refine wpM_val1 Ext.refl rfl rfl ?_)); apply Exists.intro; refine ⟨?_, ?_⟩; · (intro a w' hR; go_simp; rfl)) | ((first | (refine wpM_val0 Ext.refl rfl ?_) | (refine wpM_val1 Ext.refl rfl rfl ?_)); apply Exists.intro; refine ⟨?_, ?_⟩; · (intro a w' hR; intro h1; (first | (have e1 : _ = _ := h1) | skip); intro h2; (first | (have e2 : _ = _ := h2) | skip); intro h3; (first | (have e3 : _ = _ := h3) | skip); go_simp; rfl)) | (refine wpM_skip1 rfl ?_) | (refine wpM_skipU rfl ?_))
    (first | (refine wpM_val0 Ext.refl rfl ?_) | (refine wpM_val1 Ext.refl rfl rfl ?_)); apply Exists.intro; refine ⟨?_, ?_⟩
    · intro a w' hR h1
      have e1 : _ = _ := h1
      have hs := strB (HO9.out.ext hR)
      go_simp
      rfl
    (first | (refine wpM_val0 Ext.refl rfl ?_) | (refine wpM_val1 Ext.refl rfl rfl ?_)); apply Exists.intro; refine ⟨?_, ?_⟩
    · intro a w' hR h1
      have e1 : _ = _ := h1
      have hl0 := hR.cell c0
      have hl1 := hR.cell c1
      go_simp
      rfl
    first | (refine wpM_call0 (fun v w2 => RB w2 v rl) rfl (by first | exact mono_eq | exact (fun _ _ _ ⟨n, h1, h2, h3⟩ k => ⟨n, h1, h2, h3.ext k⟩) | exact (fun _ _ _ h k => RB.ext h k) | exact (fun _ _ _ h k => OB.ext h k) | exact (fun _ _ _ h k => Rd.ext h k) | exact (fun _ _ _ h k => ownsRow_ext h k) | exact (fun _ _ _ h k => RB.extC h k) | exact (fun _ _ _ h k => FB.extC h k) | exact (fun _ _ _ h k => Rd.extC h k) | exact (fun _ _ _ h k => RP.ext h k) | exact (fun _ _ _ h k => RE.ext h k)) ?_ ?_) | (refine wpM_call1 (fun v w2 => RB w2 v rl) rfl rfl (by first | exact mono_eq | exact (fun _ _ _ ⟨n, h1, h2, h3⟩ k => ⟨n, h1, h2, h3.ext k⟩) | exact (fun _ _ _ h k => RB.ext h k) | exact (fun _ _ _ h k => OB.ext h k) | exact (fun _ _ _ h k => Rd.ext h k) | exact (fun _ _ _ h k => ownsRow_ext h k) | exact (fun _ _ _ h k => RB.extC h k) | exact (fun _ _ _ h k => FB.extC h k) | exact (fun _ _ _ h k => Rd.extC h k) | exact (fun _ _ _ h k => RP.ext h k) | exact (fun _ _ _ h k => RE.ext h k)) ?_ ?_)
    · intro a w' hR h1 K hK
      have e1 : _ = _ := h1
      go_simp
      refine (HRPUT2.out w').mono ?_
      rintro e w2 ⟨v, rfl, ho, he⟩
      exact hK _ _ he ho
    (first | (refine wpM_val0 Ext.refl rfl ?_) | (refine wpM_val1 Ext.refl rfl rfl ?_)); apply Exists.intro; refine ⟨?_, ?_⟩
    · intro a w' hR h1
      obtain ⟨x, ex, fx⟩ : ∃ x, a.tmps.getD 58 undef = x ∧ (fun v w2 => RB w2 v rl) x w' := ⟨_, rfl, h1⟩
      have hs := strB (fx)
      go_simp
      rfl
    repeat (first | ((first | (refine wpM_move00 Ext.refl rfl rfl rfl ?_) | (refine wpM_move01 Ext.refl rfl rfl rfl rfl ?_)); apply Exists.intro; refine ⟨?_, ?_⟩; · (go_simp; rfl)) | (first | (refine wpM_movek0 Ext.refl rfl rfl rfl ?_) | (refine wpM_movek1 Ext.refl rfl rfl rfl rfl ?_)) | ((first | (refine wpM_val0 Ext.refl rfl ?_) | (refine wpM_val1 Ext.refl rfl rfl ?_)); apply Exists.intro; refine ⟨?_, ?_⟩; · (intro a w' hR; intro h1; (first | (have e1 : _ = _ := h1) | skip); intro h2; (first | (have e2 : _ = _ := h2) | skip); go_simp; rfl)) | ((first | (refine wpM_val0 Ext.refl rfl ?_) | (refine wpM_val1 Ext.refl rfl rfl ?_)); apply Exists.intro; refine ⟨?_, ?_⟩; · (intro a w' hR; intro h1; (first | (have e1 : _ = _ := h1) | skip); go_simp; rfl)) | ((first | (refine wpM_val0 Ext.refl rfl ?_) | (refine wpM_val1 Ext.refl rfl rfl ?_)); apply Exists.intro; refine ⟨?_, ?_⟩; · (intro a w' hR; go_simp; rfl)) | ((first | (refine wpM_val0 Ext.refl rfl ?_) | (refine wpM_val1 Ext.refl rfl rfl ?_)); apply Exists.intro; refine ⟨?_, ?_⟩; · (intro a w' hR; intro h1; (first | (have e1 : _ = _ := h1) | skip); intro h2; (first | (have e2 : _ = _ := h2) | skip); intro h3; (first | (have e3 : _ = _ := h3) | skip); go_simp; rfl)) | (refine wpM_skip1 rfl ?_) | (refine wpM_skipU rfl ?_))
    (first | (refine wpM_val0 Ext.refl rfl ?_) | (refine wpM_val1 Ext.refl rfl rfl ?_)); apply Exists.intro; refine ⟨?_, ?_⟩
    · intro a w' hR h1
      have e1 : _ = _ := h1
      have hl0 := hR.cell d0
      have hl1 := hR.cell d1
      go_simp
      rfl
    (first | (refine wpM_val0 Ext.refl rfl ?_) | (refine wpM_val1 Ext.refl rfl rfl ?_)); apply Exists.intro; refine ⟨?_, ?_⟩
    · intro a w' hR h1
      have e1 : _ = _ := h1
      have hl0 := hR.cell c0
      have hl1 := hR.cell c1
      go_simp
      rfl
    repeat (first | ((first | (refine wpM_move00 Ext.refl rfl rfl rfl ?_) | (refine wpM_move01 Ext.refl rfl rfl rfl rfl ?_)); apply Exists.intro; refine ⟨?_, ?_⟩; · (go_simp; rfl)) | (first | (refine wpM_movek0 Ext.refl rfl rfl rfl ?_) | (refine wpM_movek1 Ext.refl rfl rfl rfl rfl ?_)) | ((first | (refine wpM_val0 Ext.refl rfl ?_) | (refine wpM_val1 Ext.refl rfl rfl ?_)); apply Exists.intro; refine ⟨?_, ?_⟩; · (intro a w' hR; intro h1; (first | (have e1 : _ = _ := h1) | skip); intro h2; (first | (have e2 : _ = _ := h2) | skip); go_simp; rfl)) | ((first | (refine wpM_val0 Ext.refl rfl ?_) | (refine wpM_val1 Ext.refl rfl rfl ?_)); apply Exists.intro; refine ⟨?_, ?_⟩; · (intro a w' hR; intro h1; (first | (have e1 : _ = _ := h1) | skip); go_simp; rfl)) | ((first | (refine wpM_val0 Ext.refl rfl ?_) | (refine wpM_val1 Ext.refl rfl rfl ?_)); apply Exists.intro; refine ⟨?_, ?_⟩; · (intro a w' hR; go_simp; rfl)) | ((first | (refine wpM_val0 Ext.refl rfl ?_) | (refine wpM_val1 Ext.refl rfl rfl ?_)); apply Exists.intro; refine ⟨?_, ?_⟩; · (intro a w' hR; intro h1; (first | (have e1 : _ = _ := h1) | skip); intro h2; (first | (have e2 : _ = _ := h2) | skip); intro h3; (first | (have e3 : _ = _ := h3) | skip); go_simp; rfl)) | (refine wpM_skip1 rfl ?_) | (refine wpM_skipU rfl ?_))
    refine wpM_done ?_
    intro w6 hx10
    iterate 3 (rintro _ rfl)
    rintro v58 h58
    iterate 11 (rintro _ rfl)
    dsimp only [FinV]
    go_simp
    have HP6 := Lib.hid (HP9.out.ext hx10)
    have HV6 := Lib.hid (HV9.out.ext hx10)
    have HX6 := Lib.hid (HX9.out.trans hx10)
    clear hx10 h58 HP9 HV9 HX9 HO9 hE hG hpt c0 c1 d0 d1
    go_upto_region 13 with fail
    by_cases hf : f = 0
    · subst hf
      have HP6 := Lib.hid (show RB w6 (.slice A2 cl.length k2) cl by have := HP6.out; rw [when0_ok rfl] at this; exact this)
      obtain ⟨q1, q2⟩ := HDC.out rfl
      have HDEC := Lib.hid (dec_any _ cl w6 HP6.out (by have := HEL.out rfl; have := HLEN.out; omega))
      rw [q2, q1] at HDEC
      rw [when0_ok rfl]
      have HRE2 := Lib.hid (fun w h => HRE.out w h rfl)
      clear q1 q2 HEL HDC
      go_wp2_with fail
      refine HDEC.out.mono ?_
      rintro e w11 ⟨u11, rfl, ho11, he11⟩
      have HD11 := Lib.hid ho11.rp
      have HP11 := Lib.hid (HP6.out.ext he11)
      have HV11 := Lib.hid (HV6.out.ext he11)
      have HX11 := Lib.hid (HX6.out.trans he11)
      clear ho11 he11
      go_upto_region 16 with fail
      refine wp_region_ext (by kernel_rfl) (by rfl) (by rfl) (by kernel_rfl) ?_
      repeat (first | ((first | (refine wpM_move00 Ext.refl rfl rfl rfl ?_) | (refine wpM_move01 Ext.refl rfl rfl rfl rfl ?_)); apply Exists.intro; refine ⟨?_, ?_⟩; · (go_simp; rfl)) | (first | (refine wpM_movek0 Ext.refl rfl rfl rfl ?_) | (refine wpM_movek1 Ext.refl rfl rfl rfl rfl ?_)) | ((first | (refine wpM_val0 Ext.refl rfl ?_) | (refine wpM_val1 Ext.refl rfl rfl ?_)); apply Exists.intro; refine ⟨?_, ?_⟩; · (intro a w' hR; intro h1; (first | (have e1 : _ = _ := h1) | skip); intro h2; (first | (have e2 : _ = _ := h2) | skip); go_simp; rfl)) | ((first | (refine wpM_val0 Ext.refl rfl ?_) | (refine wpM_val1 Ext.refl rfl rfl ?_)); apply Exists.intro; refine ⟨?_, ?_⟩; · (intro a w' hR; intro h1; (first | (have e1 : _ = _ := h1) | skip); go_simp; rfl)) | ((first | (refine wpM_val0 Ext.refl rfl ?_) | (refine wpM_val1 Ext.refl rfl rfl ?_)); apply Exists.intro; refine ⟨?_, ?_⟩; · (intro a w' hR; go_simp; rfl)) | ((first | (refine wpM_val0 Ext.refl rfl ?_) | (refine wpM_val1 Ext.refl rfl rfl ?_)); apply Exists.intro; refine ⟨?_, ?_⟩; · (intro a w' hR; intro h1; (first | (have e1 : _ = _ := h1) | skip); intro h2; (first | (have e2 : _ = _ := h2) | skip); intro h3; (first | (have e3 : _ = _ := h3) | skip); go_simp; rfl)) | (refine wpM_skip1 rfl ?_) | (refine wpM_skipU rfl ?_))
      (first | (refine wpM_val0 Ext.refl rfl ?_) | (refine wpM_val1 Ext.refl rfl rfl ?_)); apply Exists.intro; refine ⟨?_, ?_⟩
      · intro a w' hR h1
        have e1 : _ = _ := h1
        have hs := strB (HP11.out.ext hR)
        go_simp
        rfl
      repeat (first | ((first | (refine wpM_move00 Ext.refl rfl rfl rfl ?_) | (refine wpM_move01 Ext.refl rfl rfl rfl rfl ?_)); apply Exists.intro; refine ⟨?_, ?_⟩; · (go_simp; rfl)) | (first | (refine wpM_movek0 Ext.refl rfl rfl rfl ?_) | (refine wpM_movek1 Ext.refl rfl rfl rfl rfl ?_)) | ((first | (refine wpM_val0 Ext.refl rfl ?_) | (refine wpM_val1 Ext.refl rfl rfl ?_)); apply Exists.intro; refine ⟨?_, ?_⟩; · (intro a w' hR; intro h1; (first | (have e1 : _ = _ := h1) | skip); intro h2; (first | (have e2 : _ = _ := h2) | skip); go_simp; rfl)) | ((first | (refine wpM_val0 Ext.refl rfl ?_) | (refine wpM_val1 Ext.refl rfl rfl ?_)); apply Exists.intro; refine ⟨?_, ?_⟩; · (intro a w' hR; intro h1; (first | (have e1 : _ = _ := h1) | skip); go_simp; rfl)) | ((first | (refine wpM_val0 Ext.refl rfl ?_) | (refine wpM_val1 Ext.refl rfl rfl ?_)); apply Exists.intro; refine ⟨?_, ?_⟩; · (intro a w' hR; go_simp; rfl)) | ((first | (refine wpM_val0 Ext.refl rfl ?_) | (refine wpM_val1 Ext.refl rfl rfl ?_)); apply Exists.intro; refine ⟨?_, ?_⟩; · (intro a w' hR; intro h1; (first | (have e1 : _ = _ := h1) | skip); intro h2; (first | (have e2 : _ = _ := h2) | skip); intro h3; (first | (have e3 : _ = _ := h3) | skip); go_simp; rfl)) | (refine wpM_skip1 rfl ?_) | (refine wpM_skipU rfl ?_))
      first | (refine wpM_call0 (fun v w2 => RB w2 v cl) rfl (by first | exact mono_eq | exact (fun _ _ _ ⟨n, h1, h2, h3⟩ k => ⟨n, h1, h2, h3.ext k⟩) | exact (fun _ _ _ h k => RB.ext h k) | exact (fun _ _ _ h k => OB.ext h k) | exact (fun _ _ _ h k => Rd.ext h k) | exact (fun _ _ _ h k => ownsRow_ext h k) | exact (fun _ _ _ h k => RB.extC h k) | exact (fun _ _ _ h k => FB.extC h k) | exact (fun _ _ _ h k => Rd.extC h k) | exact (fun _ _ _ h k => RP.ext h k) | exact (fun _ _ _ h k => RE.ext h k)) ?_ ?_) | (refine wpM_call1 (fun v w2 => RB w2 v cl) rfl rfl (by first | exact mono_eq | exact (fun _ _ _ ⟨n, h1, h2, h3⟩ k => ⟨n, h1, h2, h3.ext k⟩) | exact (fun _ _ _ h k => RB.ext h k) | exact (fun _ _ _ h k => OB.ext h k) | exact (fun _ _ _ h k => Rd.ext h k) | exact (fun _ _ _ h k => ownsRow_ext h k) | exact (fun _ _ _ h k => RB.extC h k) | exact (fun _ _ _ h k => FB.extC h k) | exact (fun _ _ _ h k => Rd.extC h k) | exact (fun _ _ _ h k => RP.ext h k) | exact (fun _ _ _ h k => RE.ext h k)) ?_ ?_)
      · intro a w' hR h1 K hK
        have e1 : _ = _ := h1
        go_simp
        refine (HRE2.out w' (HV11.out.ext hR)).mono ?_
        rintro e w2 ⟨v, rfl, ho, he⟩
        exact hK _ _ he ho
      (first | (refine wpM_val0 Ext.refl rfl ?_) | (refine wpM_val1 Ext.refl rfl rfl ?_)); apply Exists.intro; refine ⟨?_, ?_⟩
      · intro a w' hR h1
        obtain ⟨x, ex, fx⟩ : ∃ x, a.tmps.getD 85 undef = x ∧ (fun v w2 => RB w2 v cl) x w' := ⟨_, rfl, h1⟩
        have hs := strB (fx)
        go_simp
        rfl
      repeat (first | ((first | (refine wpM_move00 Ext.refl rfl rfl rfl ?_) | (refine wpM_move01 Ext.refl rfl rfl rfl rfl ?_)); apply Exists.intro; refine ⟨?_, ?_⟩; · (go_simp; rfl)) | (first | (refine wpM_movek0 Ext.refl rfl rfl rfl ?_) | (refine wpM_movek1 Ext.refl rfl rfl rfl rfl ?_)) | ((first | (refine wpM_val0 Ext.refl rfl ?_) | (refine wpM_val1 Ext.refl rfl rfl ?_)); apply Exists.intro; refine ⟨?_, ?_⟩; · (intro a w' hR; intro h1; (first | (have e1 : _ = _ := h1) | skip); intro h2; (first | (have e2 : _ = _ := h2) | skip); go_simp; rfl)) | ((first | (refine wpM_val0 Ext.refl rfl ?_) | (refine wpM_val1 Ext.refl rfl rfl ?_)); apply Exists.intro; refine ⟨?_, ?_⟩; · (intro a w' hR; intro h1; (first | (have e1 : _ = _ := h1) | skip); go_simp; rfl)) | ((first | (refine wpM_val0 Ext.refl rfl ?_) | (refine wpM_val1 Ext.refl rfl rfl ?_)); apply Exists.intro; refine ⟨?_, ?_⟩; · (intro a w' hR; go_simp; rfl)) | ((first | (refine wpM_val0 Ext.refl rfl ?_) | (refine wpM_val1 Ext.refl rfl rfl ?_)); apply Exists.intro; refine ⟨?_, ?_⟩; · (intro a w' hR; intro h1; (first | (have e1 : _ = _ := h1) | skip); intro h2; (first | (have e2 : _ = _ := h2) | skip); intro h3; (first | (have e3 : _ = _ := h3) | skip); go_simp; rfl)) | (refine wpM_skip1 rfl ?_) | (refine wpM_skipU rfl ?_))
      first | (refine wpM_call0 (fun v w2 => RP w2 v S) rfl (by first | exact mono_eq | exact (fun _ _ _ ⟨n, h1, h2, h3⟩ k => ⟨n, h1, h2, h3.ext k⟩) | exact (fun _ _ _ h k => RB.ext h k) | exact (fun _ _ _ h k => OB.ext h k) | exact (fun _ _ _ h k => Rd.ext h k) | exact (fun _ _ _ h k => ownsRow_ext h k) | exact (fun _ _ _ h k => RB.extC h k) | exact (fun _ _ _ h k => FB.extC h k) | exact (fun _ _ _ h k => Rd.extC h k) | exact (fun _ _ _ h k => RP.ext h k) | exact (fun _ _ _ h k => RE.ext h k)) ?_ ?_) | (refine wpM_call1 (fun v w2 => RP w2 v S) rfl rfl (by first | exact mono_eq | exact (fun _ _ _ ⟨n, h1, h2, h3⟩ k => ⟨n, h1, h2, h3.ext k⟩) | exact (fun _ _ _ h k => RB.ext h k) | exact (fun _ _ _ h k => OB.ext h k) | exact (fun _ _ _ h k => Rd.ext h k) | exact (fun _ _ _ h k => ownsRow_ext h k) | exact (fun _ _ _ h k => RB.extC h k) | exact (fun _ _ _ h k => FB.extC h k) | exact (fun _ _ _ h k => Rd.extC h k) | exact (fun _ _ _ h k => RP.ext h k) | exact (fun _ _ _ h k => RE.ext h k)) ?_ ?_)
      · intro a w' hR h1 K hK
        have e1 : _ = _ := h1
        go_simp
        refine (HRS.out w' (HV11.out.ext hR)).mono ?_
        rintro e w2 ⟨v, rfl, ho, he⟩
        exact hK _ _ he ho.rp
      first | (refine wpM_call0 (fun v _ => v = .bool true) rfl (by first | exact mono_eq | exact (fun _ _ _ ⟨n, h1, h2, h3⟩ k => ⟨n, h1, h2, h3.ext k⟩) | exact (fun _ _ _ h k => RB.ext h k) | exact (fun _ _ _ h k => OB.ext h k) | exact (fun _ _ _ h k => Rd.ext h k) | exact (fun _ _ _ h k => ownsRow_ext h k) | exact (fun _ _ _ h k => RB.extC h k) | exact (fun _ _ _ h k => FB.extC h k) | exact (fun _ _ _ h k => Rd.extC h k) | exact (fun _ _ _ h k => RP.ext h k) | exact (fun _ _ _ h k => RE.ext h k)) ?_ ?_) | (refine wpM_call1 (fun v _ => v = .bool true) rfl rfl (by first | exact mono_eq | exact (fun _ _ _ ⟨n, h1, h2, h3⟩ k => ⟨n, h1, h2, h3.ext k⟩) | exact (fun _ _ _ h k => RB.ext h k) | exact (fun _ _ _ h k => OB.ext h k) | exact (fun _ _ _ h k => Rd.ext h k) | exact (fun _ _ _ h k => ownsRow_ext h k) | exact (fun _ _ _ h k => RB.extC h k) | exact (fun _ _ _ h k => FB.extC h k) | exact (fun _ _ _ h k => Rd.extC h k) | exact (fun _ _ _ h k => RP.ext h k) | exact (fun _ _ _ h k => RE.ext h k)) ?_ ?_)
      · intro a w' hR h1 h2 K hK
        have e1 : _ = _ := h1
        obtain ⟨x, ex, fx⟩ : ∃ x, a.tmps.getD 95 undef = x ∧ (fun v w2 => RP w2 v S) x w' := ⟨_, rfl, h2⟩
        go_simp
        refine (live_exact _ _ S S true w' (by simp) (HD11.out.ext hR) fx).mono ?_
        rintro e w2 ⟨rfl, he⟩
        exact hK _ _ he rfl
      repeat (first | ((first | (refine wpM_move00 Ext.refl rfl rfl rfl ?_) | (refine wpM_move01 Ext.refl rfl rfl rfl rfl ?_)); apply Exists.intro; refine ⟨?_, ?_⟩; · (go_simp; rfl)) | (first | (refine wpM_movek0 Ext.refl rfl rfl rfl ?_) | (refine wpM_movek1 Ext.refl rfl rfl rfl rfl ?_)) | ((first | (refine wpM_val0 Ext.refl rfl ?_) | (refine wpM_val1 Ext.refl rfl rfl ?_)); apply Exists.intro; refine ⟨?_, ?_⟩; · (intro a w' hR; intro h1; (first | (have e1 : _ = _ := h1) | skip); intro h2; (first | (have e2 : _ = _ := h2) | skip); go_simp; rfl)) | ((first | (refine wpM_val0 Ext.refl rfl ?_) | (refine wpM_val1 Ext.refl rfl rfl ?_)); apply Exists.intro; refine ⟨?_, ?_⟩; · (intro a w' hR; intro h1; (first | (have e1 : _ = _ := h1) | skip); go_simp; rfl)) | ((first | (refine wpM_val0 Ext.refl rfl ?_) | (refine wpM_val1 Ext.refl rfl rfl ?_)); apply Exists.intro; refine ⟨?_, ?_⟩; · (intro a w' hR; go_simp; rfl)) | ((first | (refine wpM_val0 Ext.refl rfl ?_) | (refine wpM_val1 Ext.refl rfl rfl ?_)); apply Exists.intro; refine ⟨?_, ?_⟩; · (intro a w' hR; intro h1; (first | (have e1 : _ = _ := h1) | skip); intro h2; (first | (have e2 : _ = _ := h2) | skip); intro h3; (first | (have e3 : _ = _ := h3) | skip); go_simp; rfl)) | (refine wpM_skip1 rfl ?_) | (refine wpM_skipU rfl ?_))
      refine wpM_done ?_
      intro w12 hx12
      iterate 3 (rintro _ rfl)
      rintro v85 h85
      iterate 9 (rintro _ rfl)
      rintro v95 h95
      iterate 2 (rintro _ rfl)
      dsimp only [FinV]
      go_simp
      go_wp2
      go_ret
      exact ⟨rfl, HX11.out.trans hx12⟩
    · have hn : (f != 0) = true := by simpa using hf
      have hz : (when0 f cl).length = 0 := by rw [when0_no hf]; rfl
      generalize (when0 f cl).length = zn at *
      subst hz
      clear hf
      go_wp2
      go_ret
      exact ⟨rfl, HX6.out⟩
theorem recCodes_law (v u : Value) (r : Rec.R) (l : List Rec.R) (w : World) (hv : v = mV r) (hu : RP w u l) :
    Calls Try.prog 3 #[v, u] w fun e w' => e = .returned (.bool true) ∧ Ext w w' := by
  subst hv
  by_cases h : 5000 < l.length
  · obtain ⟨A, c, rfl⟩ := hu.form
    exact recCodes_long r _ c A w h
  · exact recCodes_any r u l w hu (by omega)

set_option maxRecDepth 100000 in
set_option maxHeartbeats 400000 in
theorem recReads_long (n c : Nat) (A : Option Addr) (w : World) (h : 5000 < n) :
    Calls Try.prog 4 #[.slice A n c] w fun e w' => e = .returned (.bool true) ∧ Ext w w' := by
  have g : (5000 : Int) < (n : Int) := by omega
  clear h
  go_enter Try.func4, Try.ntmps4
  go_wp2_with fail
  refine (lives_any _).mono ?_
  rintro e w1 ⟨rfl, he1⟩
  go_wp2
  go_ret
  exact ⟨rfl, he1⟩

set_option maxRecDepth 100000 in
set_option maxHeartbeats 4000000 in
theorem recReads_any (v : Value) (b : List UInt8) (w : World) (hb : RB w v b) (hl : b.length ≤ 5000) :
    Calls Try.prog 4 #[v] w fun e w' => e = .returned (.bool true) ∧ Ext w w' := by
  have HB := Lib.hid hb
  have HDE := Lib.hid (fun w h => dec_any v b w h (by omega))
  have HRD := Lib.hid (fun w h => rdec_any v b w h (by omega))
  have HOR := Lib.hid (Rec.dec_or b)
  have HL := Lib.hid hl
  obtain ⟨A, c, rfl⟩ := hb.form
  have g : ¬ (5000 : Int) < (b.length : Int) := by omega
  have HMR := Lib.hid (fun K g w (h : NR K w g ⟨b, false⟩) hK => mread_any g ⟨b, false⟩ w h (by simp only; omega) hK)
  have HRR := Lib.hid (fun K g w (h : RR K w g ⟨b, false⟩) hK => rread_any g ⟨b, false⟩ w h (by simp only; omega) hK)
  unfold ReadPost at HMR HRR
  generalize readE ⟨b, false⟩ = er at *
  generalize readV ⟨b, false⟩ = x at *
  generalize Rec.decE b = dE at *
  generalize Rec.decL b = dL at *
  obtain ⟨x1, x2⟩ := x
  clear hb hl
  go_enter Try.func4, Try.ntmps4
  go_wp2_with fail
  refine (HDE.out _ HB.out).mono ?_
  rintro e w1 ⟨u1, rfl, ho1, he1⟩
  have HO1 := Lib.hid ho1.rp
  have HX1 := Lib.hid he1
  clear ho1 he1 HDE
  go_wp2_with fail
  refine (HRD.out _ (HB.out.ext HX1.out)).mono ?_
  rintro e w2 ⟨u2, rfl, ho2, he2⟩
  have HP2 := Lib.hid ho2.rp
  have HO2 := Lib.hid (HO1.out.ext he2)
  have HX2 := Lib.hid (HX1.out.trans he2)
  clear ho2 he2 HRD HO1 HX1
  go_wp2_with fail
  refine (from_any _ b w2 (HB.out.ext HX2.out) (by have := HL.out; omega)).mono ?_
  rintro e w3 ⟨g3, rfl, hr3, he3, hg3⟩
  have HR3 := Lib.hid hr3
  have HE3 := Lib.hid he3
  have HG3 := Lib.hid hg3
  clear hr3 he3 hg3
  go_wp2_with fail
  refine (HMR.out _ g3 _ HR3.out (fun b hb => hb)).mono ?_
  rintro e w4 ⟨rfl, hx4⟩
  have hx : Ext w2 (w4.alloc (.cells #[.int .i64 x1, .int .i64 x2] 23)) := (HE3.out.andG hx4.extG HG3.out).alloc _
  go_upto_region 6 with fail
  have HQ5 := Lib.hid (Bx.new w4 23 x1 x2)
  have HO5 := Lib.hid (HO2.out.ext hx)
  have HP5 := Lib.hid (HP2.out.ext hx)
  have HX5 := Lib.hid (HX2.out.trans hx)
  generalize w4.heap.size = q at *
  generalize w4.alloc (.cells #[.int .i64 x1, .int .i64 x2] 23) = w5 at *
  clear hx hx4 HE3 HG3 HR3 HO2 HP2 HX2
  go_wp2_with (refine wpList_appBB rfl elemB w5 _ (.tmp 36) (.tmp 37) rfl _ [] rfl (OB.emptyL w5 _) ((Ext.refl w5).alloc _) _ b rfl ((HB.out.ext HX5.out).ext ((Ext.refl w5).alloc _)) (by have := HL.out; simp; omega) ?_; intro v6 w6 ho6 he6 hg6; rw [List.nil_append] at ho6; obtain ⟨A6, c6, rfl⟩ := ho6.form; have HO6 := Lib.hid ho6; have HE6 := Lib.hid he6; clear ho6 he6 hg6)
  have hrr : RR (fun k => k < (w6.alloc (.cells #[.slice A6 b.length c6, .bool false] 51)).heap.size) (w6.alloc (.cells #[.slice A6 b.length c6, .bool false] 51)) w6.heap.size ⟨b, false⟩ := (Rdr.new HO6.out.rb _ _).weak (fun b hb => by simp; omega)
  refine (HRR.out _ _ _ hrr (fun b hb => hb)).mono ?_
  rintro e w7 ⟨rfl, hx7⟩
  have hx : Ext w5 (w7.alloc (.cells #[.int .i64 x1, .int .i64 x2] 23)) := ((HE6.out.alloc _).andG hx7.extG HE6.out.size).alloc _
  go_upto_region 7 with fail
  have HZ8 := Lib.hid (Bx.new w7 23 x1 x2)
  have HQ8 := Lib.hid (HQ5.out.ext hx)
  have HO8 := Lib.hid (HO5.out.ext hx)
  have HP8 := Lib.hid (HP5.out.ext hx)
  have HX8 := Lib.hid (HX5.out.trans hx)
  generalize w7.heap.size = p at *
  generalize w7.alloc (.cells #[.int .i64 x1, .int .i64 x2] 23) = w8 at *
  clear hx hx7 hrr HE6 HO6 HQ5 HO5 HP5 HX5
  go_wp2_with fail
  refine (mread_nil _).mono ?_
  rintro e w9 ⟨rfl, he9⟩
  have hx : Ext w8 (w9.alloc (.cells #[.int .i64 0, .int .i64 0] 23)) := he9.alloc _
  go_upto_region 8 with fail
  have HZ10 := Lib.hid (HZ8.out.ext hx)
  have HQ10 := Lib.hid (HQ8.out.ext hx)
  have HO10 := Lib.hid (HO8.out.ext hx)
  have HP10 := Lib.hid (HP8.out.ext hx)
  have HX10 := Lib.hid (HX8.out.trans hx)
  generalize w9.heap.size = o at *
  generalize w9.alloc (.cells #[.int .i64 0, .int .i64 0] 23) = w10 at *
  clear hx he9 HZ8 HQ8 HO8 HP8 HX8
  have hN := neM
  have hG := guardM
  have hpt : pairB x1 x2 x1 x2 = true := pairB_t rfl
  have her : (er != er) = false := by simp
  go_wp2_with fail
  refine (lives_any _).mono ?_
  rintro e w11 ⟨rfl, he11⟩
  have HZ11 := Lib.hid (HZ10.out.ext he11)
  have HQ11 := Lib.hid (HQ10.out.ext he11)
  have HO11 := Lib.hid (HO10.out.ext he11)
  have HP11 := Lib.hid (HP10.out.ext he11)
  have HX11 := Lib.hid (HX10.out.trans he11)
  clear he11 HZ10 HQ10 HO10 HP10 HX10
  go_wp2_with fail
  refine (live_exact _ _ dL dL true w11 (by simp) HO11.out HP11.out).mono ?_
  rintro e w12 ⟨rfl, he12⟩
  obtain ⟨c0, c1⟩ := HZ11.out.ext he12
  obtain ⟨d0, d1⟩ := HQ11.out.ext he12
  have HO12 := Lib.hid (HO11.out.ext he12)
  have HX12 := Lib.hid (HX11.out.trans he12)
  clear he12 HZ11 HQ11 HO11 HP11 HX11
  by_cases h0 : dE = 0
  · subst h0
    obtain ⟨hm, hs, hen⟩ : Rec.may dL = 0 ∧ Rec.srt dL = dL ∧ Rec.encL dL = b := by
      rcases HOR.out with ⟨_, h⟩ | ⟨h, _⟩
      · exact h.back
      · cases h
    have hln : dL.length ≤ 1000000 := by have := (Rec.may_ok hm).2; omega
    have HEN := Lib.hid (fun v w h => enc_ok v dL w h hln hm)
    rw [hen] at HEN
    clear hm hs hen hln HOR
    go_upto_region 12 with fail
    go_wp2_with fail
    refine (HEN.out _ _ HO12.out).mono ?_
    rintro e w13 ⟨u13, rfl, ho13, he13⟩
    have hs1 := strB ho13.rb
    have hs2 := strB (HB.out.ext (HX12.out.trans he13))
    have HX13 := Lib.hid (HX12.out.trans he13)
    obtain ⟨A13, k13, rfl⟩ := ho13.form
    clear ho13 he13 c0 c1 d0 d1 hpt
    go_wp2
    go_ret
    exact ⟨by simp, HX13.out⟩
  · have h10 : dE = 10 := by
      rcases HOR.out with ⟨h, _⟩ | ⟨h, _⟩
      · exact absurd h h0
      · exact h
    subst h10
    clear h0 HOR
    go_wp2
    go_ret
    exact ⟨rfl, HX12.out⟩
theorem recReads_law (v : Value) (b : List UInt8) (w : World) (hb : RB w v b) :
    Calls Try.prog 4 #[v] w fun e w' => e = .returned (.bool true) ∧ Ext w w' := by
  by_cases h : 5000 < b.length
  · obtain ⟨A, c, rfl⟩ := hb.form
    exact recReads_long _ c A w h
  · exact recReads_any v b w hb (by omega)
theorem recCodes_row (w : World) (v : Value) (a : Rec.R) (hv : v = mV a) (u : Value) (b : List Rec.R) (hu : RP w u b) :
    Calls Try.prog 3 #[v, u] w fun e w' => e = .returned (.bool true) ∧ Ext w w' := recCodes_law v u a b w hv hu
theorem recReads_row (w : World) (v : Value) (b : List UInt8) (hb : RB w v b) :
    Calls Try.prog 4 #[v] w fun e w' => e = .returned (.bool true) ∧ Ext w w' := recReads_law v b w hb
end Go.Proofs.Ytgmaeeihfoicmaa
