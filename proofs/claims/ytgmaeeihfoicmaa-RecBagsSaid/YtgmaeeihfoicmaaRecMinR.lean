/-
  The document's Minus on records.
-/
import Derived.Test.YtgmaeeihfoicmaaRecRef
import Derived.Test.YtgmaeeihfoicmaaRecMath
namespace Go.Proofs.Ytgmaeeihfoicmaa
open Go.RowKit Go.Ox Go.Shelf
attribute [local irreducible] OP RP
set_option linter.unusedVariables false
set_option linter.unusedSimpArgs false

set_option maxRecDepth 100000 in
set_option maxHeartbeats 8000000 in
theorem rminus_any (v u : Value) (a b : List Rec.R) (w : World) (hv : RP w v a) (hu : RP w u b) (ha : a.length ≤ 1000000) (hb : b.length ≤ 1000000) :
    Calls Try.prog 31 #[v, u] w fun e w' => ∃ v', e = .returned v' ∧ OP 23 w.heap.size w' v' (Rec.dif a b) ∧ Ext w w' := by
  have HSA := Lib.hid (fun w h => rsort_any a v w h ha)
  have HSB := Lib.hid (fun w h => rsort_any b u w h hb)
  have HV := Lib.hid hv
  have HU := Lib.hid hu
  have HLA := Lib.hid (show (Rec.srt a).length ≤ 1000000 by rw [Rec.srt_len]; exact ha)
  have HLB := Lib.hid (show (Rec.srt b).length ≤ 1000000 by rw [Rec.srt_len]; exact hb)
  rw [← Rec.mns_dif a b]
  generalize Rec.srt a = X at *
  generalize Rec.srt b = Y at *
  obtain ⟨D, hD⟩ : ∃ D, Rec.mns X Y = D := ⟨_, rfl⟩
  rw [hD]
  have HD := Lib.hid hD
  obtain ⟨A1, c1, rfl⟩ := hv.form
  obtain ⟨A2, c2, rfl⟩ := hu.form
  clear hv hu hD ha hb
  have hE := eqM
  have hG := guardM
  go_enter Try.func31, Try.ntmps31
  go_wp2_with fail
  refine (HSA.out _ HV.out).mono ?_
  rintro e w1 ⟨vx, rfl, hox, he1⟩
  have HOX := Lib.hid hox
  have HX1 := Lib.hid he1
  obtain ⟨AX, cX, rfl⟩ := hox.rp.form
  clear hox he1 HSA
  go_wp2_with fail
  refine (HSB.out _ (HU.out.ext HX1.out)).mono ?_
  rintro e w5 ⟨vy, rfl, hoy, he2⟩
  have HRX := Lib.hid (HOX.out.ext he2).rp
  have HRY := Lib.hid hoy.rp
  have HX5 := Lib.hid (HX1.out.trans he2)
  obtain ⟨AY, cY, rfl⟩ := hoy.rp.form
  clear hoy he2 HSB HX1 HOX
  go_wp2
  go_loopw [6, 7, 8] (fun y o iv wr => ∃ (i : Nat) (ys out : List Rec.R), i ≤ X.length ∧ iv = .int .i64 (i : Int) ∧ RP w5 y ys ∧ ys.length ≤ 1000000 ∧ OP 23 w5.heap.size wr o out ∧ out.length ≤ i ∧ out ++ Rec.mns (X.drop i) ys = D ∧ Ext w5 wr) (fun _ _ iv _ => X.length - (intOf iv).toNat)
  case atStart => exact ⟨0, Y, [], Nat.zero_le _, rfl, HRY.out, HLB.out, OP.nilS _ _ _, Nat.le_refl _, by simpa using HD.out, Ext.refl _⟩
  case round =>
    obtain ⟨i, ys, out, hi, rfl, hry, hyl, ho, hol, hmn, hext⟩ := hrel
    rename World => wA
    have hxl9 := HLA.out
    have HE := Lib.hid hext
    have HO := Lib.hid ho
    have HOL := Lib.hid hol
    have HMN := Lib.hid hmn
    have HRY2 := Lib.hid hry
    have HYL := Lib.hid hyl
    obtain ⟨AO, cO, rfl⟩ := ho.rp.form
    obtain ⟨AS, cS, rfl⟩ := hry.form
    clear hry ho hol hmn hyl
    by_cases hlt : i < X.length
    · have g1 : (i : Int) < (X.length : Int) := by omega
      have g0 : 0 ≤ (i : Int) := by omega
      have hd : X.drop i = X[i] :: X.drop (i + 1) := List.drop_eq_getElem_cons hlt
      rw [hd] at HMN
      obtain ⟨bX, oX, rfl, xa, xb⟩ := HRX.out.at_ hlt
      have HLT := Lib.hid hlt
      generalize X[i] = x at *
      obtain ⟨x1, x2⟩ := x
      dsimp only at *
      have HXA := Lib.hid (And.intro xa xb)
      clear xa xb hd hext hlt
      go_wp2
      go_loopw [6] (fun y wr => ∃ (ys : List Rec.R), RP w5 y ys ∧ ys.length ≤ 1000000 ∧ out ++ Rec.mns ((x1, x2) :: X.drop (i + 1)) ys = D ∧ Ext wA wr) (fun y _ => slLen y)
      case atStart => exact ⟨ys, HRY2.out, HYL.out, HMN.out, Ext.refl _⟩
      case round =>
        obtain ⟨zs, hrz, hzl, hmz, hex2⟩ := hrel
        rename World => wB
        have HE2 := Lib.hid (HE.out.trans hex2)
        have HEX := Lib.hid hex2
        have HO2 := Lib.hid (HO.out.ext hex2)
        have HRZ := Lib.hid hrz
        have HZL := Lib.hid hzl
        have HMZ := Lib.hid hmz
        obtain ⟨AZ, cZ, rfl⟩ := hrz.form
        have xa := HE2.out.cell HXA.out.1
        have xb := HE2.out.cell HXA.out.2
        clear hzl hmz hex2
        by_cases hz : 0 < zs.length
        · have gz : 0 < (zs.length : Int) := by omega
          obtain ⟨bZ, oZ, rfl, ya, yb⟩ := hrz.at_ (k := 0) hz
          have hzs : zs = zs[0] :: zs.drop 1 := by
            have := List.drop_eq_getElem_cons hz
            simpa using this
          have HZS := Lib.hid hzs
          obtain ⟨A8, hlo8, rlo8⟩ := RP.lo1 elemM HRZ.out hz
          have HL8 := Lib.hid rlo8
          have HCM := Lib.hid (fun w => rcompare_any zs[0] (x1, x2) w)
          have HQ := Lib.hid (show Mom.cmp zs[0] (x1, x2) < 0 ↔ Mom.lt zs[0] (x1, x2) from Mom.cmp_lt)
          have hdl : (zs.drop 1).length + 1 = zs.length := by rw [List.length_drop]; omega
          have HDL := Lib.hid hdl
          generalize zs.drop 1 = t at *
          generalize zs[0] = y at *
          obtain ⟨y1, y2⟩ := y
          dsimp only at *
          have ya := HE2.out.cell (by simpa using ya : w5.cell? ⟨bZ, oZ, none⟩ = some (.int .i64 y1))
          have yb := HE2.out.cell (by simpa using yb : w5.cell? ⟨bZ, oZ + 1, none⟩ = some (.int .i64 y2))
          rw [HZS.out] at HMZ
          generalize Mom.cmp (y1, y2) (x1, x2) = z at *
          clear hrz hzs hdl rlo8
          by_cases hlz : z < 0
          · have HM2 := Lib.hid (Rec.mns_skip (xs := X.drop (i + 1)) (t := t) (HQ.out.1 hlz))
            go_wp2
            refine wp_region_ext (by kernel_rfl) (by rfl) (by rfl) (by kernel_rfl) ?_
            repeat (first | ((first | (refine wpM_move00 Ext.refl rfl rfl rfl ?_) | (refine wpM_move01 Ext.refl rfl rfl rfl rfl ?_)); apply Exists.intro; refine ⟨?_, ?_⟩; · (go_simp; rfl)) | (first | (refine wpM_movek0 Ext.refl rfl rfl rfl ?_) | (refine wpM_movek1 Ext.refl rfl rfl rfl rfl ?_)) | ((first | (refine wpM_val0 Ext.refl rfl ?_) | (refine wpM_val1 Ext.refl rfl rfl ?_)); apply Exists.intro; refine ⟨?_, ?_⟩; · (intro a w' hR; intro h1; (first | (have e1 : _ = _ := h1) | skip); intro h2; (first | (have e2 : _ = _ := h2) | skip); go_simp; rfl)) | ((first | (refine wpM_val0 Ext.refl rfl ?_) | (refine wpM_val1 Ext.refl rfl rfl ?_)); apply Exists.intro; refine ⟨?_, ?_⟩; · (intro a w' hR; intro h1; (first | (have e1 : _ = _ := h1) | skip); go_simp; rfl)) | ((first | (refine wpM_val0 Ext.refl rfl ?_) | (refine wpM_val1 Ext.refl rfl rfl ?_)); apply Exists.intro; refine ⟨?_, ?_⟩; · (intro a w' hR; go_simp; rfl)) | ((first | (refine wpM_val0 Ext.refl rfl ?_) | (refine wpM_val1 Ext.refl rfl rfl ?_)); apply Exists.intro; refine ⟨?_, ?_⟩; · (intro a w' hR; intro h1; (first | (have e1 : _ = _ := h1) | skip); intro h2; (first | (have e2 : _ = _ := h2) | skip); intro h3; (first | (have e3 : _ = _ := h3) | skip); go_simp; rfl)) | (refine wpM_skip1 rfl ?_) | (refine wpM_skipU rfl ?_))
            (first | (refine wpM_val0 Ext.refl rfl ?_) | (refine wpM_val1 Ext.refl rfl rfl ?_)); apply Exists.intro; refine ⟨?_, ?_⟩
            · intro a w' hR h1
              have e1 : _ = _ := h1
              have hl0 := hR.cell ya
              have hl1 := hR.cell yb
              go_simp
              rfl
            repeat (first | ((first | (refine wpM_move00 Ext.refl rfl rfl rfl ?_) | (refine wpM_move01 Ext.refl rfl rfl rfl rfl ?_)); apply Exists.intro; refine ⟨?_, ?_⟩; · (go_simp; rfl)) | (first | (refine wpM_movek0 Ext.refl rfl rfl rfl ?_) | (refine wpM_movek1 Ext.refl rfl rfl rfl rfl ?_)) | ((first | (refine wpM_val0 Ext.refl rfl ?_) | (refine wpM_val1 Ext.refl rfl rfl ?_)); apply Exists.intro; refine ⟨?_, ?_⟩; · (intro a w' hR; intro h1; (first | (have e1 : _ = _ := h1) | skip); intro h2; (first | (have e2 : _ = _ := h2) | skip); go_simp; rfl)) | ((first | (refine wpM_val0 Ext.refl rfl ?_) | (refine wpM_val1 Ext.refl rfl rfl ?_)); apply Exists.intro; refine ⟨?_, ?_⟩; · (intro a w' hR; intro h1; (first | (have e1 : _ = _ := h1) | skip); go_simp; rfl)) | ((first | (refine wpM_val0 Ext.refl rfl ?_) | (refine wpM_val1 Ext.refl rfl rfl ?_)); apply Exists.intro; refine ⟨?_, ?_⟩; · (intro a w' hR; go_simp; rfl)) | ((first | (refine wpM_val0 Ext.refl rfl ?_) | (refine wpM_val1 Ext.refl rfl rfl ?_)); apply Exists.intro; refine ⟨?_, ?_⟩; · (intro a w' hR; intro h1; (first | (have e1 : _ = _ := h1) | skip); intro h2; (first | (have e2 : _ = _ := h2) | skip); intro h3; (first | (have e3 : _ = _ := h3) | skip); go_simp; rfl)) | (refine wpM_skip1 rfl ?_) | (refine wpM_skipU rfl ?_))
            (first | (refine wpM_val0 Ext.refl rfl ?_) | (refine wpM_val1 Ext.refl rfl rfl ?_)); apply Exists.intro; refine ⟨?_, ?_⟩
            · intro a w' hR h1
              have e1 : _ = _ := h1
              have hl0 := hR.cell xa
              have hl1 := hR.cell xb
              go_simp
              rfl
            first | (refine wpM_call0 (fun v _ => v = .int .i64 z) rfl (by first | exact mono_eq | exact (fun _ _ _ ⟨n, h1, h2, h3⟩ k => ⟨n, h1, h2, h3.ext k⟩) | exact (fun _ _ _ h k => RB.ext h k) | exact (fun _ _ _ h k => OB.ext h k) | exact (fun _ _ _ h k => Rd.ext h k) | exact (fun _ _ _ h k => ownsRow_ext h k) | exact (fun _ _ _ h k => RB.extC h k) | exact (fun _ _ _ h k => FB.extC h k) | exact (fun _ _ _ h k => Rd.extC h k) | exact (fun _ _ _ h k => RP.ext h k) | exact (fun _ _ _ h k => RE.ext h k)) ?_ ?_) | (refine wpM_call1 (fun v _ => v = .int .i64 z) rfl rfl (by first | exact mono_eq | exact (fun _ _ _ ⟨n, h1, h2, h3⟩ k => ⟨n, h1, h2, h3.ext k⟩) | exact (fun _ _ _ h k => RB.ext h k) | exact (fun _ _ _ h k => OB.ext h k) | exact (fun _ _ _ h k => Rd.ext h k) | exact (fun _ _ _ h k => ownsRow_ext h k) | exact (fun _ _ _ h k => RB.extC h k) | exact (fun _ _ _ h k => FB.extC h k) | exact (fun _ _ _ h k => Rd.extC h k) | exact (fun _ _ _ h k => RP.ext h k) | exact (fun _ _ _ h k => RE.ext h k)) ?_ ?_)
            · intro a w' hR h1 h2 K hK
              have e1 : _ = _ := h1
              have e2 : _ = _ := h2
              go_simp
              refine (HCM.out w').mono ?_
              rintro e w2 ⟨rfl, he⟩
              exact hK _ _ he rfl
            repeat (first | ((first | (refine wpM_move00 Ext.refl rfl rfl rfl ?_) | (refine wpM_move01 Ext.refl rfl rfl rfl rfl ?_)); apply Exists.intro; refine ⟨?_, ?_⟩; · (go_simp; rfl)) | (first | (refine wpM_movek0 Ext.refl rfl rfl rfl ?_) | (refine wpM_movek1 Ext.refl rfl rfl rfl rfl ?_)) | ((first | (refine wpM_val0 Ext.refl rfl ?_) | (refine wpM_val1 Ext.refl rfl rfl ?_)); apply Exists.intro; refine ⟨?_, ?_⟩; · (intro a w' hR; intro h1; (first | (have e1 : _ = _ := h1) | skip); intro h2; (first | (have e2 : _ = _ := h2) | skip); go_simp; rfl)) | ((first | (refine wpM_val0 Ext.refl rfl ?_) | (refine wpM_val1 Ext.refl rfl rfl ?_)); apply Exists.intro; refine ⟨?_, ?_⟩; · (intro a w' hR; intro h1; (first | (have e1 : _ = _ := h1) | skip); go_simp; rfl)) | ((first | (refine wpM_val0 Ext.refl rfl ?_) | (refine wpM_val1 Ext.refl rfl rfl ?_)); apply Exists.intro; refine ⟨?_, ?_⟩; · (intro a w' hR; go_simp; rfl)) | ((first | (refine wpM_val0 Ext.refl rfl ?_) | (refine wpM_val1 Ext.refl rfl rfl ?_)); apply Exists.intro; refine ⟨?_, ?_⟩; · (intro a w' hR; intro h1; (first | (have e1 : _ = _ := h1) | skip); intro h2; (first | (have e2 : _ = _ := h2) | skip); intro h3; (first | (have e3 : _ = _ := h3) | skip); go_simp; rfl)) | (refine wpM_skip1 rfl ?_) | (refine wpM_skipU rfl ?_))
            refine wpM_done ?_
            intro w6 hx6
            iterate 14 (rintro _ rfl)
            dsimp only [FinV]
            go_simp
            have HX6 := Lib.hid (HEX.out.trans hx6)
            clear hx6
            go_wp2
            exact ⟨⟨t, HL8.out, by have := HZL.out; have := HDL.out; omega, by rw [← HM2.out]; exact HMZ.out, HX6.out⟩, by have := HDL.out; simp [slLen]; omega⟩
          · have HNL := Lib.hid (fun h => hlz (HQ.out.2 h))
            go_wp2
            refine wp_region_ext (by kernel_rfl) (by rfl) (by rfl) (by kernel_rfl) ?_
            repeat (first | ((first | (refine wpM_move00 Ext.refl rfl rfl rfl ?_) | (refine wpM_move01 Ext.refl rfl rfl rfl rfl ?_)); apply Exists.intro; refine ⟨?_, ?_⟩; · (go_simp; rfl)) | (first | (refine wpM_movek0 Ext.refl rfl rfl rfl ?_) | (refine wpM_movek1 Ext.refl rfl rfl rfl rfl ?_)) | ((first | (refine wpM_val0 Ext.refl rfl ?_) | (refine wpM_val1 Ext.refl rfl rfl ?_)); apply Exists.intro; refine ⟨?_, ?_⟩; · (intro a w' hR; intro h1; (first | (have e1 : _ = _ := h1) | skip); intro h2; (first | (have e2 : _ = _ := h2) | skip); go_simp; rfl)) | ((first | (refine wpM_val0 Ext.refl rfl ?_) | (refine wpM_val1 Ext.refl rfl rfl ?_)); apply Exists.intro; refine ⟨?_, ?_⟩; · (intro a w' hR; intro h1; (first | (have e1 : _ = _ := h1) | skip); go_simp; rfl)) | ((first | (refine wpM_val0 Ext.refl rfl ?_) | (refine wpM_val1 Ext.refl rfl rfl ?_)); apply Exists.intro; refine ⟨?_, ?_⟩; · (intro a w' hR; go_simp; rfl)) | ((first | (refine wpM_val0 Ext.refl rfl ?_) | (refine wpM_val1 Ext.refl rfl rfl ?_)); apply Exists.intro; refine ⟨?_, ?_⟩; · (intro a w' hR; intro h1; (first | (have e1 : _ = _ := h1) | skip); intro h2; (first | (have e2 : _ = _ := h2) | skip); intro h3; (first | (have e3 : _ = _ := h3) | skip); go_simp; rfl)) | (refine wpM_skip1 rfl ?_) | (refine wpM_skipU rfl ?_))
            (first | (refine wpM_val0 Ext.refl rfl ?_) | (refine wpM_val1 Ext.refl rfl rfl ?_)); apply Exists.intro; refine ⟨?_, ?_⟩
            · intro a w' hR h1
              have e1 : _ = _ := h1
              have hl0 := hR.cell ya
              have hl1 := hR.cell yb
              go_simp
              rfl
            repeat (first | ((first | (refine wpM_move00 Ext.refl rfl rfl rfl ?_) | (refine wpM_move01 Ext.refl rfl rfl rfl rfl ?_)); apply Exists.intro; refine ⟨?_, ?_⟩; · (go_simp; rfl)) | (first | (refine wpM_movek0 Ext.refl rfl rfl rfl ?_) | (refine wpM_movek1 Ext.refl rfl rfl rfl rfl ?_)) | ((first | (refine wpM_val0 Ext.refl rfl ?_) | (refine wpM_val1 Ext.refl rfl rfl ?_)); apply Exists.intro; refine ⟨?_, ?_⟩; · (intro a w' hR; intro h1; (first | (have e1 : _ = _ := h1) | skip); intro h2; (first | (have e2 : _ = _ := h2) | skip); go_simp; rfl)) | ((first | (refine wpM_val0 Ext.refl rfl ?_) | (refine wpM_val1 Ext.refl rfl rfl ?_)); apply Exists.intro; refine ⟨?_, ?_⟩; · (intro a w' hR; intro h1; (first | (have e1 : _ = _ := h1) | skip); go_simp; rfl)) | ((first | (refine wpM_val0 Ext.refl rfl ?_) | (refine wpM_val1 Ext.refl rfl rfl ?_)); apply Exists.intro; refine ⟨?_, ?_⟩; · (intro a w' hR; go_simp; rfl)) | ((first | (refine wpM_val0 Ext.refl rfl ?_) | (refine wpM_val1 Ext.refl rfl rfl ?_)); apply Exists.intro; refine ⟨?_, ?_⟩; · (intro a w' hR; intro h1; (first | (have e1 : _ = _ := h1) | skip); intro h2; (first | (have e2 : _ = _ := h2) | skip); intro h3; (first | (have e3 : _ = _ := h3) | skip); go_simp; rfl)) | (refine wpM_skip1 rfl ?_) | (refine wpM_skipU rfl ?_))
            (first | (refine wpM_val0 Ext.refl rfl ?_) | (refine wpM_val1 Ext.refl rfl rfl ?_)); apply Exists.intro; refine ⟨?_, ?_⟩
            · intro a w' hR h1
              have e1 : _ = _ := h1
              have hl0 := hR.cell xa
              have hl1 := hR.cell xb
              go_simp
              rfl
            first | (refine wpM_call0 (fun v _ => v = .int .i64 z) rfl (by first | exact mono_eq | exact (fun _ _ _ ⟨n, h1, h2, h3⟩ k => ⟨n, h1, h2, h3.ext k⟩) | exact (fun _ _ _ h k => RB.ext h k) | exact (fun _ _ _ h k => OB.ext h k) | exact (fun _ _ _ h k => Rd.ext h k) | exact (fun _ _ _ h k => ownsRow_ext h k) | exact (fun _ _ _ h k => RB.extC h k) | exact (fun _ _ _ h k => FB.extC h k) | exact (fun _ _ _ h k => Rd.extC h k) | exact (fun _ _ _ h k => RP.ext h k) | exact (fun _ _ _ h k => RE.ext h k)) ?_ ?_) | (refine wpM_call1 (fun v _ => v = .int .i64 z) rfl rfl (by first | exact mono_eq | exact (fun _ _ _ ⟨n, h1, h2, h3⟩ k => ⟨n, h1, h2, h3.ext k⟩) | exact (fun _ _ _ h k => RB.ext h k) | exact (fun _ _ _ h k => OB.ext h k) | exact (fun _ _ _ h k => Rd.ext h k) | exact (fun _ _ _ h k => ownsRow_ext h k) | exact (fun _ _ _ h k => RB.extC h k) | exact (fun _ _ _ h k => FB.extC h k) | exact (fun _ _ _ h k => Rd.extC h k) | exact (fun _ _ _ h k => RP.ext h k) | exact (fun _ _ _ h k => RE.ext h k)) ?_ ?_)
            · intro a w' hR h1 h2 K hK
              have e1 : _ = _ := h1
              have e2 : _ = _ := h2
              go_simp
              refine (HCM.out w').mono ?_
              rintro e w2 ⟨rfl, he⟩
              exact hK _ _ he rfl
            repeat (first | ((first | (refine wpM_move00 Ext.refl rfl rfl rfl ?_) | (refine wpM_move01 Ext.refl rfl rfl rfl rfl ?_)); apply Exists.intro; refine ⟨?_, ?_⟩; · (go_simp; rfl)) | (first | (refine wpM_movek0 Ext.refl rfl rfl rfl ?_) | (refine wpM_movek1 Ext.refl rfl rfl rfl rfl ?_)) | ((first | (refine wpM_val0 Ext.refl rfl ?_) | (refine wpM_val1 Ext.refl rfl rfl ?_)); apply Exists.intro; refine ⟨?_, ?_⟩; · (intro a w' hR; intro h1; (first | (have e1 : _ = _ := h1) | skip); intro h2; (first | (have e2 : _ = _ := h2) | skip); go_simp; rfl)) | ((first | (refine wpM_val0 Ext.refl rfl ?_) | (refine wpM_val1 Ext.refl rfl rfl ?_)); apply Exists.intro; refine ⟨?_, ?_⟩; · (intro a w' hR; intro h1; (first | (have e1 : _ = _ := h1) | skip); go_simp; rfl)) | ((first | (refine wpM_val0 Ext.refl rfl ?_) | (refine wpM_val1 Ext.refl rfl rfl ?_)); apply Exists.intro; refine ⟨?_, ?_⟩; · (intro a w' hR; go_simp; rfl)) | ((first | (refine wpM_val0 Ext.refl rfl ?_) | (refine wpM_val1 Ext.refl rfl rfl ?_)); apply Exists.intro; refine ⟨?_, ?_⟩; · (intro a w' hR; intro h1; (first | (have e1 : _ = _ := h1) | skip); intro h2; (first | (have e2 : _ = _ := h2) | skip); intro h3; (first | (have e3 : _ = _ := h3) | skip); go_simp; rfl)) | (refine wpM_skip1 rfl ?_) | (refine wpM_skipU rfl ?_))
            refine wpM_done ?_
            intro w6 hx6
            iterate 14 (rintro _ rfl)
            dsimp only [FinV]
            go_simp
            have HX6 := Lib.hid (HE2.out.trans hx6)
            have HO6 := Lib.hid (HO2.out.ext hx6)
            have xa := hx6.cell xa
            have xb := hx6.cell xb
            have ya := hx6.cell ya
            have yb := hx6.cell yb
            clear hx6
            by_cases hxy : (y1, y2) = (x1, x2)
            · have hd := pairB_t hxy
              have HMS := Lib.hid (show Rec.mns ((x1, x2) :: X.drop (i + 1)) ((y1, y2) :: t) = Rec.mns (X.drop (i + 1)) t by rw [hxy]; exact Rec.mns_same)
              clear hxy
              go_wp2
              refine wp_region_ext (by kernel_rfl) (by rfl) (by rfl) (by kernel_rfl) ?_
              repeat (first | ((first | (refine wpM_move00 Ext.refl rfl rfl rfl ?_) | (refine wpM_move01 Ext.refl rfl rfl rfl rfl ?_)); apply Exists.intro; refine ⟨?_, ?_⟩; · (go_simp; rfl)) | (first | (refine wpM_movek0 Ext.refl rfl rfl rfl ?_) | (refine wpM_movek1 Ext.refl rfl rfl rfl rfl ?_)) | ((first | (refine wpM_val0 Ext.refl rfl ?_) | (refine wpM_val1 Ext.refl rfl rfl ?_)); apply Exists.intro; refine ⟨?_, ?_⟩; · (intro a w' hR; intro h1; (first | (have e1 : _ = _ := h1) | skip); intro h2; (first | (have e2 : _ = _ := h2) | skip); go_simp; rfl)) | ((first | (refine wpM_val0 Ext.refl rfl ?_) | (refine wpM_val1 Ext.refl rfl rfl ?_)); apply Exists.intro; refine ⟨?_, ?_⟩; · (intro a w' hR; intro h1; (first | (have e1 : _ = _ := h1) | skip); go_simp; rfl)) | ((first | (refine wpM_val0 Ext.refl rfl ?_) | (refine wpM_val1 Ext.refl rfl rfl ?_)); apply Exists.intro; refine ⟨?_, ?_⟩; · (intro a w' hR; go_simp; rfl)) | ((first | (refine wpM_val0 Ext.refl rfl ?_) | (refine wpM_val1 Ext.refl rfl rfl ?_)); apply Exists.intro; refine ⟨?_, ?_⟩; · (intro a w' hR; intro h1; (first | (have e1 : _ = _ := h1) | skip); intro h2; (first | (have e2 : _ = _ := h2) | skip); intro h3; (first | (have e3 : _ = _ := h3) | skip); go_simp; rfl)) | (refine wpM_skip1 rfl ?_) | (refine wpM_skipU rfl ?_))
              (first | (refine wpM_val0 Ext.refl rfl ?_) | (refine wpM_val1 Ext.refl rfl rfl ?_)); apply Exists.intro; refine ⟨?_, ?_⟩
              · intro a w' hR h1
                have e1 : _ = _ := h1
                have hl0 := hR.cell ya
                have hl1 := hR.cell yb
                go_simp
                rfl
              repeat (first | ((first | (refine wpM_move00 Ext.refl rfl rfl rfl ?_) | (refine wpM_move01 Ext.refl rfl rfl rfl rfl ?_)); apply Exists.intro; refine ⟨?_, ?_⟩; · (go_simp; rfl)) | (first | (refine wpM_movek0 Ext.refl rfl rfl rfl ?_) | (refine wpM_movek1 Ext.refl rfl rfl rfl rfl ?_)) | ((first | (refine wpM_val0 Ext.refl rfl ?_) | (refine wpM_val1 Ext.refl rfl rfl ?_)); apply Exists.intro; refine ⟨?_, ?_⟩; · (intro a w' hR; intro h1; (first | (have e1 : _ = _ := h1) | skip); intro h2; (first | (have e2 : _ = _ := h2) | skip); go_simp; rfl)) | ((first | (refine wpM_val0 Ext.refl rfl ?_) | (refine wpM_val1 Ext.refl rfl rfl ?_)); apply Exists.intro; refine ⟨?_, ?_⟩; · (intro a w' hR; intro h1; (first | (have e1 : _ = _ := h1) | skip); go_simp; rfl)) | ((first | (refine wpM_val0 Ext.refl rfl ?_) | (refine wpM_val1 Ext.refl rfl rfl ?_)); apply Exists.intro; refine ⟨?_, ?_⟩; · (intro a w' hR; go_simp; rfl)) | ((first | (refine wpM_val0 Ext.refl rfl ?_) | (refine wpM_val1 Ext.refl rfl rfl ?_)); apply Exists.intro; refine ⟨?_, ?_⟩; · (intro a w' hR; intro h1; (first | (have e1 : _ = _ := h1) | skip); intro h2; (first | (have e2 : _ = _ := h2) | skip); intro h3; (first | (have e3 : _ = _ := h3) | skip); go_simp; rfl)) | (refine wpM_skip1 rfl ?_) | (refine wpM_skipU rfl ?_))
              (first | (refine wpM_val0 Ext.refl rfl ?_) | (refine wpM_val1 Ext.refl rfl rfl ?_)); apply Exists.intro; refine ⟨?_, ?_⟩
              · intro a w' hR h1
                have e1 : _ = _ := h1
                have hl0 := hR.cell xa
                have hl1 := hR.cell xb
                go_simp
                rfl
              repeat (first | ((first | (refine wpM_move00 Ext.refl rfl rfl rfl ?_) | (refine wpM_move01 Ext.refl rfl rfl rfl rfl ?_)); apply Exists.intro; refine ⟨?_, ?_⟩; · (go_simp; rfl)) | (first | (refine wpM_movek0 Ext.refl rfl rfl rfl ?_) | (refine wpM_movek1 Ext.refl rfl rfl rfl rfl ?_)) | ((first | (refine wpM_val0 Ext.refl rfl ?_) | (refine wpM_val1 Ext.refl rfl rfl ?_)); apply Exists.intro; refine ⟨?_, ?_⟩; · (intro a w' hR; intro h1; (first | (have e1 : _ = _ := h1) | skip); intro h2; (first | (have e2 : _ = _ := h2) | skip); go_simp; rfl)) | ((first | (refine wpM_val0 Ext.refl rfl ?_) | (refine wpM_val1 Ext.refl rfl rfl ?_)); apply Exists.intro; refine ⟨?_, ?_⟩; · (intro a w' hR; intro h1; (first | (have e1 : _ = _ := h1) | skip); go_simp; rfl)) | ((first | (refine wpM_val0 Ext.refl rfl ?_) | (refine wpM_val1 Ext.refl rfl rfl ?_)); apply Exists.intro; refine ⟨?_, ?_⟩; · (intro a w' hR; go_simp; rfl)) | ((first | (refine wpM_val0 Ext.refl rfl ?_) | (refine wpM_val1 Ext.refl rfl rfl ?_)); apply Exists.intro; refine ⟨?_, ?_⟩; · (intro a w' hR; intro h1; (first | (have e1 : _ = _ := h1) | skip); intro h2; (first | (have e2 : _ = _ := h2) | skip); intro h3; (first | (have e3 : _ = _ := h3) | skip); go_simp; rfl)) | (refine wpM_skip1 rfl ?_) | (refine wpM_skipU rfl ?_))
              refine wpM_done ?_
              intro w7 hx7
              iterate 13 (rintro _ rfl)
              dsimp only [FinV]
              go_simp
              have HX7 := Lib.hid (HX6.out.trans hx7)
              have HO7 := Lib.hid (HO6.out.ext hx7)
              clear hx7
              go_wp2
              exact ⟨⟨i + 1, t, out, HLT.out, by go_num, HL8.out, by have := HZL.out; have := HDL.out; omega, HO7.out, by have := HOL.out; omega, by rw [← HMS.out]; exact HMZ.out, HX7.out⟩, by have := HLT.out; have := HLA.out; simp [intOf]; omega⟩
            · have hd := pairB_f hxy
              have HMS := Lib.hid (show Rec.mns ((x1, x2) :: X.drop (i + 1)) ((y1, y2) :: t) = (x1, x2) :: Rec.mns (X.drop (i + 1)) ((y1, y2) :: t) from Rec.mns_keep HNL.out hxy)
              clear hxy
              go_wp2
              refine wp_region_ext (by kernel_rfl) (by rfl) (by rfl) (by kernel_rfl) ?_
              repeat (first | ((first | (refine wpM_move00 Ext.refl rfl rfl rfl ?_) | (refine wpM_move01 Ext.refl rfl rfl rfl rfl ?_)); apply Exists.intro; refine ⟨?_, ?_⟩; · (go_simp; rfl)) | (first | (refine wpM_movek0 Ext.refl rfl rfl rfl ?_) | (refine wpM_movek1 Ext.refl rfl rfl rfl rfl ?_)) | ((first | (refine wpM_val0 Ext.refl rfl ?_) | (refine wpM_val1 Ext.refl rfl rfl ?_)); apply Exists.intro; refine ⟨?_, ?_⟩; · (intro a w' hR; intro h1; (first | (have e1 : _ = _ := h1) | skip); intro h2; (first | (have e2 : _ = _ := h2) | skip); go_simp; rfl)) | ((first | (refine wpM_val0 Ext.refl rfl ?_) | (refine wpM_val1 Ext.refl rfl rfl ?_)); apply Exists.intro; refine ⟨?_, ?_⟩; · (intro a w' hR; intro h1; (first | (have e1 : _ = _ := h1) | skip); go_simp; rfl)) | ((first | (refine wpM_val0 Ext.refl rfl ?_) | (refine wpM_val1 Ext.refl rfl rfl ?_)); apply Exists.intro; refine ⟨?_, ?_⟩; · (intro a w' hR; go_simp; rfl)) | ((first | (refine wpM_val0 Ext.refl rfl ?_) | (refine wpM_val1 Ext.refl rfl rfl ?_)); apply Exists.intro; refine ⟨?_, ?_⟩; · (intro a w' hR; intro h1; (first | (have e1 : _ = _ := h1) | skip); intro h2; (first | (have e2 : _ = _ := h2) | skip); intro h3; (first | (have e3 : _ = _ := h3) | skip); go_simp; rfl)) | (refine wpM_skip1 rfl ?_) | (refine wpM_skipU rfl ?_))
              (first | (refine wpM_val0 Ext.refl rfl ?_) | (refine wpM_val1 Ext.refl rfl rfl ?_)); apply Exists.intro; refine ⟨?_, ?_⟩
              · intro a w' hR h1
                have e1 : _ = _ := h1
                have hl0 := hR.cell ya
                have hl1 := hR.cell yb
                go_simp
                rfl
              repeat (first | ((first | (refine wpM_move00 Ext.refl rfl rfl rfl ?_) | (refine wpM_move01 Ext.refl rfl rfl rfl rfl ?_)); apply Exists.intro; refine ⟨?_, ?_⟩; · (go_simp; rfl)) | (first | (refine wpM_movek0 Ext.refl rfl rfl rfl ?_) | (refine wpM_movek1 Ext.refl rfl rfl rfl rfl ?_)) | ((first | (refine wpM_val0 Ext.refl rfl ?_) | (refine wpM_val1 Ext.refl rfl rfl ?_)); apply Exists.intro; refine ⟨?_, ?_⟩; · (intro a w' hR; intro h1; (first | (have e1 : _ = _ := h1) | skip); intro h2; (first | (have e2 : _ = _ := h2) | skip); go_simp; rfl)) | ((first | (refine wpM_val0 Ext.refl rfl ?_) | (refine wpM_val1 Ext.refl rfl rfl ?_)); apply Exists.intro; refine ⟨?_, ?_⟩; · (intro a w' hR; intro h1; (first | (have e1 : _ = _ := h1) | skip); go_simp; rfl)) | ((first | (refine wpM_val0 Ext.refl rfl ?_) | (refine wpM_val1 Ext.refl rfl rfl ?_)); apply Exists.intro; refine ⟨?_, ?_⟩; · (intro a w' hR; go_simp; rfl)) | ((first | (refine wpM_val0 Ext.refl rfl ?_) | (refine wpM_val1 Ext.refl rfl rfl ?_)); apply Exists.intro; refine ⟨?_, ?_⟩; · (intro a w' hR; intro h1; (first | (have e1 : _ = _ := h1) | skip); intro h2; (first | (have e2 : _ = _ := h2) | skip); intro h3; (first | (have e3 : _ = _ := h3) | skip); go_simp; rfl)) | (refine wpM_skip1 rfl ?_) | (refine wpM_skipU rfl ?_))
              (first | (refine wpM_val0 Ext.refl rfl ?_) | (refine wpM_val1 Ext.refl rfl rfl ?_)); apply Exists.intro; refine ⟨?_, ?_⟩
              · intro a w' hR h1
                have e1 : _ = _ := h1
                have hl0 := hR.cell xa
                have hl1 := hR.cell xb
                go_simp
                rfl
              repeat (first | ((first | (refine wpM_move00 Ext.refl rfl rfl rfl ?_) | (refine wpM_move01 Ext.refl rfl rfl rfl rfl ?_)); apply Exists.intro; refine ⟨?_, ?_⟩; · (go_simp; rfl)) | (first | (refine wpM_movek0 Ext.refl rfl rfl rfl ?_) | (refine wpM_movek1 Ext.refl rfl rfl rfl rfl ?_)) | ((first | (refine wpM_val0 Ext.refl rfl ?_) | (refine wpM_val1 Ext.refl rfl rfl ?_)); apply Exists.intro; refine ⟨?_, ?_⟩; · (intro a w' hR; intro h1; (first | (have e1 : _ = _ := h1) | skip); intro h2; (first | (have e2 : _ = _ := h2) | skip); go_simp; rfl)) | ((first | (refine wpM_val0 Ext.refl rfl ?_) | (refine wpM_val1 Ext.refl rfl rfl ?_)); apply Exists.intro; refine ⟨?_, ?_⟩; · (intro a w' hR; intro h1; (first | (have e1 : _ = _ := h1) | skip); go_simp; rfl)) | ((first | (refine wpM_val0 Ext.refl rfl ?_) | (refine wpM_val1 Ext.refl rfl rfl ?_)); apply Exists.intro; refine ⟨?_, ?_⟩; · (intro a w' hR; go_simp; rfl)) | ((first | (refine wpM_val0 Ext.refl rfl ?_) | (refine wpM_val1 Ext.refl rfl rfl ?_)); apply Exists.intro; refine ⟨?_, ?_⟩; · (intro a w' hR; intro h1; (first | (have e1 : _ = _ := h1) | skip); intro h2; (first | (have e2 : _ = _ := h2) | skip); intro h3; (first | (have e3 : _ = _ := h3) | skip); go_simp; rfl)) | (refine wpM_skip1 rfl ?_) | (refine wpM_skipU rfl ?_))
              refine wpM_done ?_
              intro w7 hx7
              iterate 13 (rintro _ rfl)
              dsimp only [FinV]
              go_simp
              have HX7 := Lib.hid (HX6.out.trans hx7)
              have HO7 := Lib.hid (HO6.out.ext hx7)
              have xa := hx7.cell xa
              have xb := hx7.cell xb
              have hxl : Ext w7 (w7.alloc (.cells #[.int .i64 x1, .int .i64 x2] 23)) := (Ext.refl _).alloc _
              have HLT2 := Lib.hid (RP.lit w7 #[.int .i64 x1, .int .i64 x2] 23 1 [(x1, x2)] rfl (by omega) rfl)
              have HOL2 := Lib.hid (HO7.out.ext hxl)
              have HXL := Lib.hid (HX7.out.trans hxl)
              clear hx7 hxl
              go_wp2_with (at_builtin; refine wpList_app rfl elemM _ _ _ rfl w5.heap.size _ out.length _ rfl HOL2.out.own _ 1 _ rfl HLT2.out.rd (one_pV _) (by have := HOL.out; have := HLA.out; have := HLT.out; omega) (by have := HOL.out; have := HLA.out; have := HLT.out; unfold maxLen; omega) HXL.out.size ?_; intro v8 w8 ha)
              exact ⟨⟨i + 1, zs, out ++ [(x1, x2)], HLT.out, by go_num, HRZ.out, HZL.out, OP.app ha.own, by have := HOL.out; simp; omega, by rw [HZS.out, List.append_assoc, List.singleton_append, ← HMS.out]; exact HMZ.out, ha.ext HXL.out rfl HOL2.out.own⟩, by have := HLT.out; have := HLA.out; simp [intOf]; omega⟩
        · have hz0 : zs = [] := List.eq_nil_of_length_eq_zero (by omega)
          subst hz0
          have HMS := Lib.hid (show Rec.mns ((x1, x2) :: X.drop (i + 1)) [] = (x1, x2) :: Rec.mns (X.drop (i + 1)) [] from Rec.mns_nil)
          have gz : ¬ 0 < (([] : List Rec.R).length : Int) := by simp
          clear hrz hz
          simp only [List.length_nil] at *
          go_wp2
          refine wp_region_ext (by kernel_rfl) (by rfl) (by rfl) (by kernel_rfl) ?_
          repeat (first | ((first | (refine wpM_move00 Ext.refl rfl rfl rfl ?_) | (refine wpM_move01 Ext.refl rfl rfl rfl rfl ?_)); apply Exists.intro; refine ⟨?_, ?_⟩; · (go_simp; rfl)) | (first | (refine wpM_movek0 Ext.refl rfl rfl rfl ?_) | (refine wpM_movek1 Ext.refl rfl rfl rfl rfl ?_)) | ((first | (refine wpM_val0 Ext.refl rfl ?_) | (refine wpM_val1 Ext.refl rfl rfl ?_)); apply Exists.intro; refine ⟨?_, ?_⟩; · (intro a w' hR; intro h1; (first | (have e1 : _ = _ := h1) | skip); intro h2; (first | (have e2 : _ = _ := h2) | skip); go_simp; rfl)) | ((first | (refine wpM_val0 Ext.refl rfl ?_) | (refine wpM_val1 Ext.refl rfl rfl ?_)); apply Exists.intro; refine ⟨?_, ?_⟩; · (intro a w' hR; intro h1; (first | (have e1 : _ = _ := h1) | skip); go_simp; rfl)) | ((first | (refine wpM_val0 Ext.refl rfl ?_) | (refine wpM_val1 Ext.refl rfl rfl ?_)); apply Exists.intro; refine ⟨?_, ?_⟩; · (intro a w' hR; go_simp; rfl)) | ((first | (refine wpM_val0 Ext.refl rfl ?_) | (refine wpM_val1 Ext.refl rfl rfl ?_)); apply Exists.intro; refine ⟨?_, ?_⟩; · (intro a w' hR; intro h1; (first | (have e1 : _ = _ := h1) | skip); intro h2; (first | (have e2 : _ = _ := h2) | skip); intro h3; (first | (have e3 : _ = _ := h3) | skip); go_simp; rfl)) | (refine wpM_skip1 rfl ?_) | (refine wpM_skipU rfl ?_))
          refine wpM_done ?_
          intro w6 hx6
          iterate 14 (rintro _ rfl)
          dsimp only [FinV]
          go_simp
          have HX6 := Lib.hid (HE2.out.trans hx6)
          have HO6 := Lib.hid (HO2.out.ext hx6)
          have xa := hx6.cell xa
          have xb := hx6.cell xb
          clear hx6
          go_wp2
          refine wp_region_ext (by kernel_rfl) (by rfl) (by rfl) (by kernel_rfl) ?_
          repeat (first | ((first | (refine wpM_move00 Ext.refl rfl rfl rfl ?_) | (refine wpM_move01 Ext.refl rfl rfl rfl rfl ?_)); apply Exists.intro; refine ⟨?_, ?_⟩; · (go_simp; rfl)) | (first | (refine wpM_movek0 Ext.refl rfl rfl rfl ?_) | (refine wpM_movek1 Ext.refl rfl rfl rfl rfl ?_)) | ((first | (refine wpM_val0 Ext.refl rfl ?_) | (refine wpM_val1 Ext.refl rfl rfl ?_)); apply Exists.intro; refine ⟨?_, ?_⟩; · (intro a w' hR; intro h1; (first | (have e1 : _ = _ := h1) | skip); intro h2; (first | (have e2 : _ = _ := h2) | skip); go_simp; rfl)) | ((first | (refine wpM_val0 Ext.refl rfl ?_) | (refine wpM_val1 Ext.refl rfl rfl ?_)); apply Exists.intro; refine ⟨?_, ?_⟩; · (intro a w' hR; intro h1; (first | (have e1 : _ = _ := h1) | skip); go_simp; rfl)) | ((first | (refine wpM_val0 Ext.refl rfl ?_) | (refine wpM_val1 Ext.refl rfl rfl ?_)); apply Exists.intro; refine ⟨?_, ?_⟩; · (intro a w' hR; go_simp; rfl)) | ((first | (refine wpM_val0 Ext.refl rfl ?_) | (refine wpM_val1 Ext.refl rfl rfl ?_)); apply Exists.intro; refine ⟨?_, ?_⟩; · (intro a w' hR; intro h1; (first | (have e1 : _ = _ := h1) | skip); intro h2; (first | (have e2 : _ = _ := h2) | skip); intro h3; (first | (have e3 : _ = _ := h3) | skip); go_simp; rfl)) | (refine wpM_skip1 rfl ?_) | (refine wpM_skipU rfl ?_))
          refine wpM_done ?_
          intro w7 hx7
          iterate 13 (rintro _ rfl)
          dsimp only [FinV]
          go_simp
          have HX7 := Lib.hid (HX6.out.trans hx7)
          have HO7 := Lib.hid (HO6.out.ext hx7)
          have xa := hx7.cell xa
          have xb := hx7.cell xb
          have hxl : Ext w7 (w7.alloc (.cells #[.int .i64 x1, .int .i64 x2] 23)) := (Ext.refl _).alloc _
          have HLT2 := Lib.hid (RP.lit w7 #[.int .i64 x1, .int .i64 x2] 23 1 [(x1, x2)] rfl (by omega) rfl)
          have HOL2 := Lib.hid (HO7.out.ext hxl)
          have HXL := Lib.hid (HX7.out.trans hxl)
          clear hx7 hxl
          go_wp2_with (at_builtin; refine wpList_app rfl elemM _ _ _ rfl w5.heap.size _ out.length _ rfl HOL2.out.own _ 1 _ rfl HLT2.out.rd (one_pV _) (by have := HOL.out; have := HLA.out; have := HLT.out; omega) (by have := HOL.out; have := HLA.out; have := HLT.out; unfold maxLen; omega) HXL.out.size ?_; intro v8 w8 ha)
          exact ⟨⟨i + 1, [], out ++ [(x1, x2)], HLT.out, by go_num, HRZ.out, HZL.out, OP.app ha.own, by have := HOL.out; simp; omega, by rw [List.append_assoc, List.singleton_append, ← HMS.out]; exact HMZ.out, ha.ext HXL.out rfl HOL2.out.own⟩, by have := HLT.out; have := HLA.out; simp [intOf]; omega⟩
    · have hi2 : i = X.length := by omega
      subst hi2
      have g1 : ¬ (X.length : Int) < (X.length : Int) := by omega
      rw [List.drop_length] at HMN
      have HF := Lib.hid (show out = D by have := HMN.out; unfold Rec.mns at this; simpa using this)
      clear hext
      go_wp2
      go_ret
      rw [← HF.out]
      exact ⟨_, rfl, HO.out.low HX5.out.size, HX5.out.trans HE.out⟩
end Go.Proofs.Ytgmaeeihfoicmaa
