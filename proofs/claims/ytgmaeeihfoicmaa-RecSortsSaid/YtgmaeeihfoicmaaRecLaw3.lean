/-
  The walk of RecSorts.
-/
import Derived.Test.YtgmaeeihfoicmaaRecLaw1
import Derived.Test.YtgmaeeihfoicmaaRecGrpR
namespace Go.Proofs.Ytgmaeeihfoicmaa
open Go.RowKit Go.Ox Go.Shelf Go.Op
open Go.Ox.Rec (when0 when0_ok when0_no)
attribute [local irreducible] OP RP OB RB
set_option linter.unusedVariables false
set_option linter.unusedSimpArgs false

theorem rsorted_all (v : Value) (l : List Rec.R) (w : World) (hv : RP w v l) (hl : l.length ≤ 1000000) (b : Bool) (hb : b = true ↔ Rec.Asc l) :
    Calls Try.prog 37 #[v] w fun e w' => e = .returned (.bool b) ∧ Ext w w' :=
  (rsorted_any v l w hv hl).mono fun e w' ⟨c, h1, h2, h3⟩ => ⟨by rw [h1, Bool.eq_iff_iff.2 (h2.trans hb.symm)], h3⟩

set_option maxRecDepth 100000 in
set_option maxHeartbeats 400000 in
theorem recSorts_long (r : Rec.R) (n c : Nat) (A : Option Addr) (w : World) (h : 5000 < n) :
    Calls Try.prog 8 #[.slice A n c, mV r] w fun e w' => e = .returned (.bool true) ∧ Ext w w' := by
  have HL := Lib.hid (fun w => large_is A n c w true (by simpa using h))
  obtain ⟨m1, m2⟩ := r
  clear h
  go_enter Try.func8, Try.ntmps8
  go_wp2_with fail
  refine (HL.out _).mono ?_
  rintro e w' ⟨rfl, rfl⟩
  go_wp2_with fail
  refine (lives_any _).mono ?_
  rintro e w1 ⟨rfl, he1⟩
  go_wp2
  go_ret
  exact ⟨rfl, ((Ext.refl _).alloc _).trans he1⟩

/-- what RecSorts holds: the bag, its copy, in order, each once, by keys -/
structure RS (w : World) (v o s d g : Value) (p : Nat) (r1 r2 : Int) (f : Int) (l : List Rec.R) : Prop where
  v : RP w v l
  o : RP w o l
  s : RP w s (when0 f (Rec.srt l))
  d : RP w d (when0 f (dis l))
  g : RRS w g (when0 f (Rec.grp l))
  b : Bx w p r1 r2
theorem RS.ext {w w' : World} {v o s d g : Value} {p : Nat} {r1 r2 f : Int} {l : List Rec.R} (h : RS w v o s d g p r1 r2 f l) (he : Ext w w') : RS w' v o s d g p r1 r2 f l :=
  ⟨h.v.ext he, h.o.ext he, h.s.ext he, h.d.ext he, h.g.extE he, h.b.ext he⟩

set_option maxRecDepth 100000 in
set_option maxHeartbeats 8000000 in
theorem recSorts_any (r : Rec.R) (v : Value) (l : List Rec.R) (w : World) (hv : RP w v l) (hl : l.length ≤ 5000) :
    Calls Try.prog 8 #[v, mV r] w fun e w' => e = .returned (.bool true) ∧ Ext w w' := by
  have HV := Lib.hid hv
  have HLEN := Lib.hid hl
  obtain ⟨A, c, rfl⟩ := hv.form
  have HLG := Lib.hid (fun w => large_is A l.length c w false (by simp; omega))
  have HRM := Lib.hid (fun w h => rmay_any (.slice A l.length c) l w h (by omega))
  have HMA := Lib.hid (fun v w h => may_any v l w h (by omega))
  have HSO := Lib.hid (fun v w h => sort_all v l w h (by omega))
  have HDI := Lib.hid (fun v w h => distinct_all v l w h (by omega))
  have HGR := Lib.hid (fun v w h => groups_all v l w h (by omega))
  have HRS := Lib.hid (fun w h => rsort_any l (.slice A l.length c) w h (by omega))
  have HRD := Lib.hid (fun w h => rdistinct_any (.slice A l.length c) l w h (by omega))
  have HRG := Lib.hid (fun w h => rgroups_any (.slice A l.length c) l w h (by omega))
  obtain ⟨sb, hsb⟩ : ∃ b : Bool, b = true ↔ Rec.Asc l := by
    by_cases h : Rec.Asc l
    · exact ⟨true, fun _ => h, fun _ => rfl⟩
    · exact ⟨false, fun k => (by cases k), fun k => absurd k h⟩
  have HS1 := Lib.hid (fun v w h => sorted_all v l w h (by omega) sb hsb)
  have HS2 := Lib.hid (fun v w h => rsorted_all v l w h (by omega) sb hsb)
  have HC1 := Lib.hid (fun v w h => count_any v l r w h (by omega))
  have HC2 := Lib.hid (fun v w h => rcount_any v l r w h (by omega))
  have HEX := Lib.hid (fun v u w h k => live_exact v u l l true w (by simp) h k)
  clear hv hl hsb
  have hff : (Rec.may l != Rec.may l) = false := by simp
  have hss : (sb != sb) = false := by simp
  have hcc : ((cntR l r : Int) != (cntR l r : Int)) = false := by simp
  generalize (cntR l r : Int) = cn at *
  generalize hf : Rec.may l = f at *
  clear hf
  obtain ⟨m1, m2⟩ := r
  have HB0 := Lib.hid (Bx.new w 23 m1 m2)
  have HX0 := Lib.hid ((Ext.refl w).alloc (.cells #[.int .i64 m1, .int .i64 m2] 23))
  go_enter Try.func8, Try.ntmps8
  go_upto_region 1 with fail
  have HV0 := Lib.hid (HV.out.ext HX0.out)
  generalize w.heap.size = p at *
  generalize w.alloc (.cells #[.int .i64 m1, .int .i64 m2] 23) = w0 at *
  go_wp2_with fail
  refine (HLG.out _).mono ?_
  rintro e w' ⟨rfl, rfl⟩
  have HXL := Lib.hid ((Ext.refl w0).alloc (.cells #[] 23))
  have HEL := Lib.hid (own_lit0 w0 23)
  have HVL := Lib.hid (HV0.out.ext HXL.out)
  go_wp2_with (at_builtin; refine wpList_app rfl elemM _ _ _ rfl w0.heap.size _ 0 [] rfl HEL.out.own _ l.length (pV l) rfl HVL.out.rd (one_pV _) (by have := HLEN.out; omega) (by have := HLEN.out; unfold maxLen; omega) HXL.out.size ?_; intro v1 w1 hap; have HO1 := Lib.hid (OP.of0 hap.own).rp; have HX1 := Lib.hid (hap.ext HXL.out rfl HEL.out.own); clear hap)
  have HV1 := Lib.hid (HV0.out.ext HX1.out)
  have HB1 := Lib.hid (HB0.out.ext HX1.out)
  have HX1 := Lib.hid (HX0.out.trans HX1.out)
  obtain ⟨A1, c1, rfl⟩ := HO1.out.form
  clear HXL HEL HVL HV0 HB0 HX0
  refine (HRM.out _ HV1.out).mono ?_
  rintro e w2 ⟨rfl, he2⟩
  have HV2 := Lib.hid (HV1.out.ext he2)
  have HO2 := Lib.hid (HO1.out.ext he2)
  have HB2 := Lib.hid (HB1.out.ext he2)
  have HX2 := Lib.hid (HX1.out.trans he2)
  clear he2 HV1 HO1 HB1 HX1
  go_wp2_with fail
  refine (HSO.out _ _ HO2.out).mono ?_
  rintro e w3 ⟨s, rfl, hs, he3⟩
  obtain ⟨A3, c3, rfl⟩ := hs.form
  have HS3 := Lib.hid hs
  have HV3 := Lib.hid (HV2.out.ext he3)
  have HO3 := Lib.hid (HO2.out.ext he3)
  have HB3 := Lib.hid (HB2.out.ext he3)
  have HX3 := Lib.hid (HX2.out.trans he3)
  clear he3 HV2 HO2 HB2 HX2 hs
  go_wp2_with fail
  refine (HDI.out _ _ HO3.out).mono ?_
  rintro e w4 ⟨d, rfl, hd, he4⟩
  obtain ⟨A4, c4, rfl⟩ := hd.form
  have HD4 := Lib.hid hd
  have HS4 := Lib.hid (HS3.out.ext he4)
  have HV4 := Lib.hid (HV3.out.ext he4)
  have HO4 := Lib.hid (HO3.out.ext he4)
  have HB4 := Lib.hid (HB3.out.ext he4)
  have HX4 := Lib.hid (HX3.out.trans he4)
  clear he4 HV3 HO3 HB3 HX3 HS3 hd
  go_wp2_with fail
  refine (HGR.out _ _ HO4.out).mono ?_
  rintro e w5 ⟨g, rfl, hg, he5⟩
  obtain ⟨A5, c5, rfl⟩ := hg.form
  have HR5 := Lib.hid (RS.mk (HV4.out.ext he5) (HO4.out.ext he5) (HS4.out.ext he5) (HD4.out.ext he5) hg (HB4.out.ext he5))
  have HX5 := Lib.hid (HX4.out.trans he5)
  clear he5 HV4 HO4 HB4 HX4 HS4 HD4 hg
  obtain ⟨c0, c1'⟩ := HR5.out.b
  go_upto_region 8 with fail
  refine wp_region_ext (by kernel_rfl) (by rfl) (by rfl) (by kernel_rfl) ?_
  first | (refine wpM_call0 (fun v _ => v = .bool true) rfl (by first | exact mono_eq | exact (fun _ _ _ ⟨n, h1, h2, h3⟩ k => ⟨n, h1, h2, h3.ext k⟩) | exact (fun _ _ _ h k => RB.ext h k) | exact (fun _ _ _ h k => OB.ext h k) | exact (fun _ _ _ h k => Rd.ext h k) | exact (fun _ _ _ h k => ownsRow_ext h k) | exact (fun _ _ _ h k => RB.extC h k) | exact (fun _ _ _ h k => FB.extC h k) | exact (fun _ _ _ h k => Rd.extC h k) | exact (fun _ _ _ h k => RP.ext h k) | exact (fun _ _ _ h k => RE.ext h k)) ?_ ?_) | (refine wpM_call1 (fun v _ => v = .bool true) rfl rfl (by first | exact mono_eq | exact (fun _ _ _ ⟨n, h1, h2, h3⟩ k => ⟨n, h1, h2, h3.ext k⟩) | exact (fun _ _ _ h k => RB.ext h k) | exact (fun _ _ _ h k => OB.ext h k) | exact (fun _ _ _ h k => Rd.ext h k) | exact (fun _ _ _ h k => ownsRow_ext h k) | exact (fun _ _ _ h k => RB.extC h k) | exact (fun _ _ _ h k => FB.extC h k) | exact (fun _ _ _ h k => Rd.extC h k) | exact (fun _ _ _ h k => RP.ext h k) | exact (fun _ _ _ h k => RE.ext h k)) ?_ ?_)
  · intro a w' hR  K hK
    go_simp
    refine (lives_any w').mono ?_
    rintro e w2 ⟨rfl, he⟩
    exact hK _ _ he rfl
  repeat (first | ((first | (refine wpM_move00 Ext.refl rfl rfl rfl ?_) | (refine wpM_move01 Ext.refl rfl rfl rfl rfl ?_)); apply Exists.intro; refine ⟨?_, ?_⟩; · (go_simp; rfl)) | (first | (refine wpM_movek0 Ext.refl rfl rfl rfl ?_) | (refine wpM_movek1 Ext.refl rfl rfl rfl rfl ?_)) | ((first | (refine wpM_val0 Ext.refl rfl ?_) | (refine wpM_val1 Ext.refl rfl rfl ?_)); apply Exists.intro; refine ⟨?_, ?_⟩; · (intro a w' hR; intro h1; (first | (have e1 : _ = _ := h1) | skip); intro h2; (first | (have e2 : _ = _ := h2) | skip); go_simp; rfl)) | ((first | (refine wpM_val0 Ext.refl rfl ?_) | (refine wpM_val1 Ext.refl rfl rfl ?_)); apply Exists.intro; refine ⟨?_, ?_⟩; · (intro a w' hR; intro h1; (first | (have e1 : _ = _ := h1) | skip); go_simp; rfl)) | ((first | (refine wpM_val0 Ext.refl rfl ?_) | (refine wpM_val1 Ext.refl rfl rfl ?_)); apply Exists.intro; refine ⟨?_, ?_⟩; · (intro a w' hR; go_simp; rfl)) | ((first | (refine wpM_val0 Ext.refl rfl ?_) | (refine wpM_val1 Ext.refl rfl rfl ?_)); apply Exists.intro; refine ⟨?_, ?_⟩; · (intro a w' hR; intro h1; (first | (have e1 : _ = _ := h1) | skip); intro h2; (first | (have e2 : _ = _ := h2) | skip); intro h3; (first | (have e3 : _ = _ := h3) | skip); go_simp; rfl)) | (refine wpM_skip1 rfl ?_) | (refine wpM_skipU rfl ?_))
  first | (refine wpM_call0 (fun v _ => v = .int .i64 f) rfl (by first | exact mono_eq | exact (fun _ _ _ ⟨n, h1, h2, h3⟩ k => ⟨n, h1, h2, h3.ext k⟩) | exact (fun _ _ _ h k => RB.ext h k) | exact (fun _ _ _ h k => OB.ext h k) | exact (fun _ _ _ h k => Rd.ext h k) | exact (fun _ _ _ h k => ownsRow_ext h k) | exact (fun _ _ _ h k => RB.extC h k) | exact (fun _ _ _ h k => FB.extC h k) | exact (fun _ _ _ h k => Rd.extC h k) | exact (fun _ _ _ h k => RP.ext h k) | exact (fun _ _ _ h k => RE.ext h k)) ?_ ?_) | (refine wpM_call1 (fun v _ => v = .int .i64 f) rfl rfl (by first | exact mono_eq | exact (fun _ _ _ ⟨n, h1, h2, h3⟩ k => ⟨n, h1, h2, h3.ext k⟩) | exact (fun _ _ _ h k => RB.ext h k) | exact (fun _ _ _ h k => OB.ext h k) | exact (fun _ _ _ h k => Rd.ext h k) | exact (fun _ _ _ h k => ownsRow_ext h k) | exact (fun _ _ _ h k => RB.extC h k) | exact (fun _ _ _ h k => FB.extC h k) | exact (fun _ _ _ h k => Rd.extC h k) | exact (fun _ _ _ h k => RP.ext h k) | exact (fun _ _ _ h k => RE.ext h k)) ?_ ?_)
  · intro a w' hR h1 K hK
    have e1 : _ = _ := h1
    go_simp
    refine (HMA.out _ w' (HR5.out.o.ext hR)).mono ?_
    rintro e w2 ⟨rfl, he⟩
    exact hK _ _ he rfl
  repeat (first | ((first | (refine wpM_move00 Ext.refl rfl rfl rfl ?_) | (refine wpM_move01 Ext.refl rfl rfl rfl rfl ?_)); apply Exists.intro; refine ⟨?_, ?_⟩; · (go_simp; rfl)) | (first | (refine wpM_movek0 Ext.refl rfl rfl rfl ?_) | (refine wpM_movek1 Ext.refl rfl rfl rfl rfl ?_)) | ((first | (refine wpM_val0 Ext.refl rfl ?_) | (refine wpM_val1 Ext.refl rfl rfl ?_)); apply Exists.intro; refine ⟨?_, ?_⟩; · (intro a w' hR; intro h1; (first | (have e1 : _ = _ := h1) | skip); intro h2; (first | (have e2 : _ = _ := h2) | skip); go_simp; rfl)) | ((first | (refine wpM_val0 Ext.refl rfl ?_) | (refine wpM_val1 Ext.refl rfl rfl ?_)); apply Exists.intro; refine ⟨?_, ?_⟩; · (intro a w' hR; intro h1; (first | (have e1 : _ = _ := h1) | skip); go_simp; rfl)) | ((first | (refine wpM_val0 Ext.refl rfl ?_) | (refine wpM_val1 Ext.refl rfl rfl ?_)); apply Exists.intro; refine ⟨?_, ?_⟩; · (intro a w' hR; go_simp; rfl)) | ((first | (refine wpM_val0 Ext.refl rfl ?_) | (refine wpM_val1 Ext.refl rfl rfl ?_)); apply Exists.intro; refine ⟨?_, ?_⟩; · (intro a w' hR; intro h1; (first | (have e1 : _ = _ := h1) | skip); intro h2; (first | (have e2 : _ = _ := h2) | skip); intro h3; (first | (have e3 : _ = _ := h3) | skip); go_simp; rfl)) | (refine wpM_skip1 rfl ?_) | (refine wpM_skipU rfl ?_))
  first | (refine wpM_call0 (fun v _ => v = .bool sb) rfl (by first | exact mono_eq | exact (fun _ _ _ ⟨n, h1, h2, h3⟩ k => ⟨n, h1, h2, h3.ext k⟩) | exact (fun _ _ _ h k => RB.ext h k) | exact (fun _ _ _ h k => OB.ext h k) | exact (fun _ _ _ h k => Rd.ext h k) | exact (fun _ _ _ h k => ownsRow_ext h k) | exact (fun _ _ _ h k => RB.extC h k) | exact (fun _ _ _ h k => FB.extC h k) | exact (fun _ _ _ h k => Rd.extC h k) | exact (fun _ _ _ h k => RP.ext h k) | exact (fun _ _ _ h k => RE.ext h k)) ?_ ?_) | (refine wpM_call1 (fun v _ => v = .bool sb) rfl rfl (by first | exact mono_eq | exact (fun _ _ _ ⟨n, h1, h2, h3⟩ k => ⟨n, h1, h2, h3.ext k⟩) | exact (fun _ _ _ h k => RB.ext h k) | exact (fun _ _ _ h k => OB.ext h k) | exact (fun _ _ _ h k => Rd.ext h k) | exact (fun _ _ _ h k => ownsRow_ext h k) | exact (fun _ _ _ h k => RB.extC h k) | exact (fun _ _ _ h k => FB.extC h k) | exact (fun _ _ _ h k => Rd.extC h k) | exact (fun _ _ _ h k => RP.ext h k) | exact (fun _ _ _ h k => RE.ext h k)) ?_ ?_)
  · intro a w' hR h1 K hK
    have e1 : _ = _ := h1
    go_simp
    refine (HS1.out _ w' (HR5.out.o.ext hR)).mono ?_
    rintro e w2 ⟨rfl, he⟩
    exact hK _ _ he rfl
  repeat (first | ((first | (refine wpM_move00 Ext.refl rfl rfl rfl ?_) | (refine wpM_move01 Ext.refl rfl rfl rfl rfl ?_)); apply Exists.intro; refine ⟨?_, ?_⟩; · (go_simp; rfl)) | (first | (refine wpM_movek0 Ext.refl rfl rfl rfl ?_) | (refine wpM_movek1 Ext.refl rfl rfl rfl rfl ?_)) | ((first | (refine wpM_val0 Ext.refl rfl ?_) | (refine wpM_val1 Ext.refl rfl rfl ?_)); apply Exists.intro; refine ⟨?_, ?_⟩; · (intro a w' hR; intro h1; (first | (have e1 : _ = _ := h1) | skip); intro h2; (first | (have e2 : _ = _ := h2) | skip); go_simp; rfl)) | ((first | (refine wpM_val0 Ext.refl rfl ?_) | (refine wpM_val1 Ext.refl rfl rfl ?_)); apply Exists.intro; refine ⟨?_, ?_⟩; · (intro a w' hR; intro h1; (first | (have e1 : _ = _ := h1) | skip); go_simp; rfl)) | ((first | (refine wpM_val0 Ext.refl rfl ?_) | (refine wpM_val1 Ext.refl rfl rfl ?_)); apply Exists.intro; refine ⟨?_, ?_⟩; · (intro a w' hR; go_simp; rfl)) | ((first | (refine wpM_val0 Ext.refl rfl ?_) | (refine wpM_val1 Ext.refl rfl rfl ?_)); apply Exists.intro; refine ⟨?_, ?_⟩; · (intro a w' hR; intro h1; (first | (have e1 : _ = _ := h1) | skip); intro h2; (first | (have e2 : _ = _ := h2) | skip); intro h3; (first | (have e3 : _ = _ := h3) | skip); go_simp; rfl)) | (refine wpM_skip1 rfl ?_) | (refine wpM_skipU rfl ?_))
  first | (refine wpM_call0 (fun v _ => v = .bool sb) rfl (by first | exact mono_eq | exact (fun _ _ _ ⟨n, h1, h2, h3⟩ k => ⟨n, h1, h2, h3.ext k⟩) | exact (fun _ _ _ h k => RB.ext h k) | exact (fun _ _ _ h k => OB.ext h k) | exact (fun _ _ _ h k => Rd.ext h k) | exact (fun _ _ _ h k => ownsRow_ext h k) | exact (fun _ _ _ h k => RB.extC h k) | exact (fun _ _ _ h k => FB.extC h k) | exact (fun _ _ _ h k => Rd.extC h k) | exact (fun _ _ _ h k => RP.ext h k) | exact (fun _ _ _ h k => RE.ext h k)) ?_ ?_) | (refine wpM_call1 (fun v _ => v = .bool sb) rfl rfl (by first | exact mono_eq | exact (fun _ _ _ ⟨n, h1, h2, h3⟩ k => ⟨n, h1, h2, h3.ext k⟩) | exact (fun _ _ _ h k => RB.ext h k) | exact (fun _ _ _ h k => OB.ext h k) | exact (fun _ _ _ h k => Rd.ext h k) | exact (fun _ _ _ h k => ownsRow_ext h k) | exact (fun _ _ _ h k => RB.extC h k) | exact (fun _ _ _ h k => FB.extC h k) | exact (fun _ _ _ h k => Rd.extC h k) | exact (fun _ _ _ h k => RP.ext h k) | exact (fun _ _ _ h k => RE.ext h k)) ?_ ?_)
  · intro a w' hR h1 K hK
    have e1 : _ = _ := h1
    go_simp
    refine (HS2.out _ w' (HR5.out.v.ext hR)).mono ?_
    rintro e w2 ⟨rfl, he⟩
    exact hK _ _ he rfl
  repeat (first | ((first | (refine wpM_move00 Ext.refl rfl rfl rfl ?_) | (refine wpM_move01 Ext.refl rfl rfl rfl rfl ?_)); apply Exists.intro; refine ⟨?_, ?_⟩; · (go_simp; rfl)) | (first | (refine wpM_movek0 Ext.refl rfl rfl rfl ?_) | (refine wpM_movek1 Ext.refl rfl rfl rfl rfl ?_)) | ((first | (refine wpM_val0 Ext.refl rfl ?_) | (refine wpM_val1 Ext.refl rfl rfl ?_)); apply Exists.intro; refine ⟨?_, ?_⟩; · (intro a w' hR; intro h1; (first | (have e1 : _ = _ := h1) | skip); intro h2; (first | (have e2 : _ = _ := h2) | skip); go_simp; rfl)) | ((first | (refine wpM_val0 Ext.refl rfl ?_) | (refine wpM_val1 Ext.refl rfl rfl ?_)); apply Exists.intro; refine ⟨?_, ?_⟩; · (intro a w' hR; intro h1; (first | (have e1 : _ = _ := h1) | skip); go_simp; rfl)) | ((first | (refine wpM_val0 Ext.refl rfl ?_) | (refine wpM_val1 Ext.refl rfl rfl ?_)); apply Exists.intro; refine ⟨?_, ?_⟩; · (intro a w' hR; go_simp; rfl)) | ((first | (refine wpM_val0 Ext.refl rfl ?_) | (refine wpM_val1 Ext.refl rfl rfl ?_)); apply Exists.intro; refine ⟨?_, ?_⟩; · (intro a w' hR; intro h1; (first | (have e1 : _ = _ := h1) | skip); intro h2; (first | (have e2 : _ = _ := h2) | skip); intro h3; (first | (have e3 : _ = _ := h3) | skip); go_simp; rfl)) | (refine wpM_skip1 rfl ?_) | (refine wpM_skipU rfl ?_))
  (first | (refine wpM_val0 Ext.refl rfl ?_) | (refine wpM_val1 Ext.refl rfl rfl ?_)); apply Exists.intro; refine ⟨?_, ?_⟩
  · intro a w' hR h1
    have e1 : _ = _ := h1
    have hl0 := hR.cell c0
    have hl1 := hR.cell c1'
    go_simp
    rfl
  first | (refine wpM_call0 (fun v _ => v = .int .i64 cn) rfl (by first | exact mono_eq | exact (fun _ _ _ ⟨n, h1, h2, h3⟩ k => ⟨n, h1, h2, h3.ext k⟩) | exact (fun _ _ _ h k => RB.ext h k) | exact (fun _ _ _ h k => OB.ext h k) | exact (fun _ _ _ h k => Rd.ext h k) | exact (fun _ _ _ h k => ownsRow_ext h k) | exact (fun _ _ _ h k => RB.extC h k) | exact (fun _ _ _ h k => FB.extC h k) | exact (fun _ _ _ h k => Rd.extC h k) | exact (fun _ _ _ h k => RP.ext h k) | exact (fun _ _ _ h k => RE.ext h k)) ?_ ?_) | (refine wpM_call1 (fun v _ => v = .int .i64 cn) rfl rfl (by first | exact mono_eq | exact (fun _ _ _ ⟨n, h1, h2, h3⟩ k => ⟨n, h1, h2, h3.ext k⟩) | exact (fun _ _ _ h k => RB.ext h k) | exact (fun _ _ _ h k => OB.ext h k) | exact (fun _ _ _ h k => Rd.ext h k) | exact (fun _ _ _ h k => ownsRow_ext h k) | exact (fun _ _ _ h k => RB.extC h k) | exact (fun _ _ _ h k => FB.extC h k) | exact (fun _ _ _ h k => Rd.extC h k) | exact (fun _ _ _ h k => RP.ext h k) | exact (fun _ _ _ h k => RE.ext h k)) ?_ ?_)
  · intro a w' hR h1 h2 K hK
    have e1 : _ = _ := h1
    have e2 : _ = _ := h2
    go_simp
    refine (HC1.out _ w' (HR5.out.o.ext hR)).mono ?_
    rintro e w2 ⟨rfl, he⟩
    exact hK _ _ he rfl
  repeat (first | ((first | (refine wpM_move00 Ext.refl rfl rfl rfl ?_) | (refine wpM_move01 Ext.refl rfl rfl rfl rfl ?_)); apply Exists.intro; refine ⟨?_, ?_⟩; · (go_simp; rfl)) | (first | (refine wpM_movek0 Ext.refl rfl rfl rfl ?_) | (refine wpM_movek1 Ext.refl rfl rfl rfl rfl ?_)) | ((first | (refine wpM_val0 Ext.refl rfl ?_) | (refine wpM_val1 Ext.refl rfl rfl ?_)); apply Exists.intro; refine ⟨?_, ?_⟩; · (intro a w' hR; intro h1; (first | (have e1 : _ = _ := h1) | skip); intro h2; (first | (have e2 : _ = _ := h2) | skip); go_simp; rfl)) | ((first | (refine wpM_val0 Ext.refl rfl ?_) | (refine wpM_val1 Ext.refl rfl rfl ?_)); apply Exists.intro; refine ⟨?_, ?_⟩; · (intro a w' hR; intro h1; (first | (have e1 : _ = _ := h1) | skip); go_simp; rfl)) | ((first | (refine wpM_val0 Ext.refl rfl ?_) | (refine wpM_val1 Ext.refl rfl rfl ?_)); apply Exists.intro; refine ⟨?_, ?_⟩; · (intro a w' hR; go_simp; rfl)) | ((first | (refine wpM_val0 Ext.refl rfl ?_) | (refine wpM_val1 Ext.refl rfl rfl ?_)); apply Exists.intro; refine ⟨?_, ?_⟩; · (intro a w' hR; intro h1; (first | (have e1 : _ = _ := h1) | skip); intro h2; (first | (have e2 : _ = _ := h2) | skip); intro h3; (first | (have e3 : _ = _ := h3) | skip); go_simp; rfl)) | (refine wpM_skip1 rfl ?_) | (refine wpM_skipU rfl ?_))
  (first | (refine wpM_val0 Ext.refl rfl ?_) | (refine wpM_val1 Ext.refl rfl rfl ?_)); apply Exists.intro; refine ⟨?_, ?_⟩
  · intro a w' hR h1
    have e1 : _ = _ := h1
    have hl0 := hR.cell c0
    have hl1 := hR.cell c1'
    go_simp
    rfl
  first | (refine wpM_call0 (fun v _ => v = .int .i64 cn) rfl (by first | exact mono_eq | exact (fun _ _ _ ⟨n, h1, h2, h3⟩ k => ⟨n, h1, h2, h3.ext k⟩) | exact (fun _ _ _ h k => RB.ext h k) | exact (fun _ _ _ h k => OB.ext h k) | exact (fun _ _ _ h k => Rd.ext h k) | exact (fun _ _ _ h k => ownsRow_ext h k) | exact (fun _ _ _ h k => RB.extC h k) | exact (fun _ _ _ h k => FB.extC h k) | exact (fun _ _ _ h k => Rd.extC h k) | exact (fun _ _ _ h k => RP.ext h k) | exact (fun _ _ _ h k => RE.ext h k)) ?_ ?_) | (refine wpM_call1 (fun v _ => v = .int .i64 cn) rfl rfl (by first | exact mono_eq | exact (fun _ _ _ ⟨n, h1, h2, h3⟩ k => ⟨n, h1, h2, h3.ext k⟩) | exact (fun _ _ _ h k => RB.ext h k) | exact (fun _ _ _ h k => OB.ext h k) | exact (fun _ _ _ h k => Rd.ext h k) | exact (fun _ _ _ h k => ownsRow_ext h k) | exact (fun _ _ _ h k => RB.extC h k) | exact (fun _ _ _ h k => FB.extC h k) | exact (fun _ _ _ h k => Rd.extC h k) | exact (fun _ _ _ h k => RP.ext h k) | exact (fun _ _ _ h k => RE.ext h k)) ?_ ?_)
  · intro a w' hR h1 h2 K hK
    have e1 : _ = _ := h1
    have e2 : _ = _ := h2
    go_simp
    refine (HC2.out _ w' (HR5.out.v.ext hR)).mono ?_
    rintro e w2 ⟨rfl, he⟩
    exact hK _ _ he rfl
  repeat (first | ((first | (refine wpM_move00 Ext.refl rfl rfl rfl ?_) | (refine wpM_move01 Ext.refl rfl rfl rfl rfl ?_)); apply Exists.intro; refine ⟨?_, ?_⟩; · (go_simp; rfl)) | (first | (refine wpM_movek0 Ext.refl rfl rfl rfl ?_) | (refine wpM_movek1 Ext.refl rfl rfl rfl rfl ?_)) | ((first | (refine wpM_val0 Ext.refl rfl ?_) | (refine wpM_val1 Ext.refl rfl rfl ?_)); apply Exists.intro; refine ⟨?_, ?_⟩; · (intro a w' hR; intro h1; (first | (have e1 : _ = _ := h1) | skip); intro h2; (first | (have e2 : _ = _ := h2) | skip); go_simp; rfl)) | ((first | (refine wpM_val0 Ext.refl rfl ?_) | (refine wpM_val1 Ext.refl rfl rfl ?_)); apply Exists.intro; refine ⟨?_, ?_⟩; · (intro a w' hR; intro h1; (first | (have e1 : _ = _ := h1) | skip); go_simp; rfl)) | ((first | (refine wpM_val0 Ext.refl rfl ?_) | (refine wpM_val1 Ext.refl rfl rfl ?_)); apply Exists.intro; refine ⟨?_, ?_⟩; · (intro a w' hR; go_simp; rfl)) | ((first | (refine wpM_val0 Ext.refl rfl ?_) | (refine wpM_val1 Ext.refl rfl rfl ?_)); apply Exists.intro; refine ⟨?_, ?_⟩; · (intro a w' hR; intro h1; (first | (have e1 : _ = _ := h1) | skip); intro h2; (first | (have e2 : _ = _ := h2) | skip); intro h3; (first | (have e3 : _ = _ := h3) | skip); go_simp; rfl)) | (refine wpM_skip1 rfl ?_) | (refine wpM_skipU rfl ?_))
  first | (refine wpM_call0 (fun v _ => v = .bool true) rfl (by first | exact mono_eq | exact (fun _ _ _ ⟨n, h1, h2, h3⟩ k => ⟨n, h1, h2, h3.ext k⟩) | exact (fun _ _ _ h k => RB.ext h k) | exact (fun _ _ _ h k => OB.ext h k) | exact (fun _ _ _ h k => Rd.ext h k) | exact (fun _ _ _ h k => ownsRow_ext h k) | exact (fun _ _ _ h k => RB.extC h k) | exact (fun _ _ _ h k => FB.extC h k) | exact (fun _ _ _ h k => Rd.extC h k) | exact (fun _ _ _ h k => RP.ext h k) | exact (fun _ _ _ h k => RE.ext h k)) ?_ ?_) | (refine wpM_call1 (fun v _ => v = .bool true) rfl rfl (by first | exact mono_eq | exact (fun _ _ _ ⟨n, h1, h2, h3⟩ k => ⟨n, h1, h2, h3.ext k⟩) | exact (fun _ _ _ h k => RB.ext h k) | exact (fun _ _ _ h k => OB.ext h k) | exact (fun _ _ _ h k => Rd.ext h k) | exact (fun _ _ _ h k => ownsRow_ext h k) | exact (fun _ _ _ h k => RB.extC h k) | exact (fun _ _ _ h k => FB.extC h k) | exact (fun _ _ _ h k => Rd.extC h k) | exact (fun _ _ _ h k => RP.ext h k) | exact (fun _ _ _ h k => RE.ext h k)) ?_ ?_)
  · intro a w' hR h1 h2 K hK
    have e1 : _ = _ := h1
    have e2 : _ = _ := h2
    go_simp
    refine (HEX.out _ _ w' (HR5.out.o.ext hR) (HR5.out.v.ext hR)).mono ?_
    rintro e w2 ⟨rfl, he⟩
    exact hK _ _ he rfl
  repeat (first | ((first | (refine wpM_move00 Ext.refl rfl rfl rfl ?_) | (refine wpM_move01 Ext.refl rfl rfl rfl rfl ?_)); apply Exists.intro; refine ⟨?_, ?_⟩; · (go_simp; rfl)) | (first | (refine wpM_movek0 Ext.refl rfl rfl rfl ?_) | (refine wpM_movek1 Ext.refl rfl rfl rfl rfl ?_)) | ((first | (refine wpM_val0 Ext.refl rfl ?_) | (refine wpM_val1 Ext.refl rfl rfl ?_)); apply Exists.intro; refine ⟨?_, ?_⟩; · (intro a w' hR; intro h1; (first | (have e1 : _ = _ := h1) | skip); intro h2; (first | (have e2 : _ = _ := h2) | skip); go_simp; rfl)) | ((first | (refine wpM_val0 Ext.refl rfl ?_) | (refine wpM_val1 Ext.refl rfl rfl ?_)); apply Exists.intro; refine ⟨?_, ?_⟩; · (intro a w' hR; intro h1; (first | (have e1 : _ = _ := h1) | skip); go_simp; rfl)) | ((first | (refine wpM_val0 Ext.refl rfl ?_) | (refine wpM_val1 Ext.refl rfl rfl ?_)); apply Exists.intro; refine ⟨?_, ?_⟩; · (intro a w' hR; go_simp; rfl)) | ((first | (refine wpM_val0 Ext.refl rfl ?_) | (refine wpM_val1 Ext.refl rfl rfl ?_)); apply Exists.intro; refine ⟨?_, ?_⟩; · (intro a w' hR; intro h1; (first | (have e1 : _ = _ := h1) | skip); intro h2; (first | (have e2 : _ = _ := h2) | skip); intro h3; (first | (have e3 : _ = _ := h3) | skip); go_simp; rfl)) | (refine wpM_skip1 rfl ?_) | (refine wpM_skipU rfl ?_))
  refine wpM_done ?_
  intro w6 hx6
  iterate 45 (rintro _ rfl)
  dsimp only [FinV]
  go_simp
  have HR6 := Lib.hid (HR5.out.ext hx6)
  have HX6 := Lib.hid (HX5.out.trans hx6)
  clear hx6 HR5 HX5 c0 c1' HMA HS1 HS2 HC1 HC2 HEX hff hss hcc
  by_cases hf : f = 0
  · subst hf
    obtain ⟨h1, h2, h3, h4, h5, h6⟩ := HR6.out
    rw [when0_ok rfl] at h3 h4 h5
    simp only [when0_ok rfl] at h3 h4 h5 ⊢
    have HV6 := Lib.hid h1
    have HS6 := Lib.hid h3
    have HD6 := Lib.hid h4
    have HG6 := Lib.hid h5
    clear h1 h2 h3 h4 h5 h6 HR6
    go_wp2_with fail
    refine (HRG.out _ HV6.out).mono ?_
    rintro e w7 ⟨x, rfl, hx, he7⟩
    obtain ⟨A7, c7, rfl⟩ := hx.form
    have HY7 := Lib.hid hx
    have HV7 := Lib.hid (HV6.out.ext he7)
    have HS7 := Lib.hid (HS6.out.ext he7)
    have HD7 := Lib.hid (HD6.out.ext he7)
    have HG7 := Lib.hid (HG6.out.extE he7)
    have HX7 := Lib.hid (HX6.out.trans he7)
    clear he7 HV6 HS6 HD6 HG6 HX6 hx
    go_wp2_with fail
    refine (HRS.out _ HV7.out).mono ?_
    rintro e w8 ⟨y, rfl, hy, he8⟩
    have HQ8 := Lib.hid hy.rp
    have HY8 := Lib.hid (HY7.out.extE he8)
    have HV8 := Lib.hid (HV7.out.ext he8)
    have HS8 := Lib.hid (HS7.out.ext he8)
    have HD8 := Lib.hid (HD7.out.ext he8)
    have HG8 := Lib.hid (HG7.out.extE he8)
    have HX8 := Lib.hid (HX7.out.trans he8)
    clear he8 HV7 HS7 HD7 HG7 HX7 HY7 hy
    go_wp2_with fail
    with_reducible refine (live_exact _ _ _ _ true _ (by simp) HS8.out HQ8.out).mono ?_
    rintro e w9 ⟨rfl, he9⟩
    have HY9 := Lib.hid (HY8.out.extE he9)
    have HV9 := Lib.hid (HV8.out.ext he9)
    have HD9 := Lib.hid (HD8.out.ext he9)
    have HG9 := Lib.hid (HG8.out.extE he9)
    have HX9 := Lib.hid (HX8.out.trans he9)
    clear he9 HV8 HS8 HD8 HG8 HX8 HY8 HQ8
    go_wp2_with fail
    refine (HRD.out _ HV9.out).mono ?_
    rintro e w10 ⟨y, rfl, hy, he10⟩
    have HQ10 := Lib.hid hy.rp
    have HY10 := Lib.hid (HY9.out.extE he10)
    have HD10 := Lib.hid (HD9.out.ext he10)
    have HG10 := Lib.hid (HG9.out.extE he10)
    have HX10 := Lib.hid (HX9.out.trans he10)
    clear he10 HV9 HD9 HG9 HX9 HY9 hy
    go_wp2_with fail
    with_reducible refine (live_exact _ _ _ _ true _ (by simp) HD10.out HQ10.out).mono ?_
    rintro e w11 ⟨rfl, he11⟩
    have HY11 := Lib.hid (HY10.out.extE he11)
    have HG11 := Lib.hid (HG10.out.extE he11)
    have HX11 := Lib.hid (HX10.out.trans he11)
    clear he11 HD10 HG10 HX10 HY10 HQ10
    have hgl : (Rec.grp l).length ≤ 1000000 := by have h1 := Rec.grpF_len (Rec.srt l); rw [Rec.srt_len] at h1; have := HLEN.out; unfold Rec.grp; omega
    generalize Rec.grp l = G at *
    go_wp2
    go_loopw [14] (fun iv wr => ∃ k : Nat, k ≤ G.length ∧ iv = .int .i64 (k : Int) ∧ Ext w11 wr) (fun iv _ => G.length - (intOf iv).toNat)
    case atStart => exact ⟨0, Nat.zero_le _, rfl, Ext.refl _⟩
    case round =>
      obtain ⟨k, hk, rfl, hext⟩ := hrel
      have HE := Lib.hid hext
      by_cases hlt : k < G.length
      · have g1 : (k : Int) < (G.length : Int) := by omega
        have g0 : 0 ≤ (k : Int) := by omega
        have hkb : k ≤ 1000000 := by omega
        obtain ⟨bA, oA, u, rfl, c0, hu⟩ := (HG11.out.extE hext).at_ hlt
        obtain ⟨bB, oB, z, rfl, d0, hz⟩ := (HY11.out.extE hext).at_ hlt
        obtain ⟨Au, cu, rfl⟩ := hu.form
        obtain ⟨Az, cz, rfl⟩ := hz.form
        have HU := Lib.hid hu
        have HZ := Lib.hid hz
        have HLT := Lib.hid hlt
        generalize G[k] = row at *
        clear hext hk hlt hu hz hgl
        go_wp2
        refine wp_region_ext (by kernel_rfl) (by rfl) (by rfl) (by kernel_rfl) ?_
        repeat (first | ((first | (refine wpM_move00 Ext.refl rfl rfl rfl ?_) | (refine wpM_move01 Ext.refl rfl rfl rfl rfl ?_)); apply Exists.intro; refine ⟨?_, ?_⟩; · (go_simp; rfl)) | (first | (refine wpM_movek0 Ext.refl rfl rfl rfl ?_) | (refine wpM_movek1 Ext.refl rfl rfl rfl rfl ?_)) | ((first | (refine wpM_val0 Ext.refl rfl ?_) | (refine wpM_val1 Ext.refl rfl rfl ?_)); apply Exists.intro; refine ⟨?_, ?_⟩; · (intro a w' hR; intro h1; (first | (have e1 : _ = _ := h1) | skip); intro h2; (first | (have e2 : _ = _ := h2) | skip); go_simp; rfl)) | ((first | (refine wpM_val0 Ext.refl rfl ?_) | (refine wpM_val1 Ext.refl rfl rfl ?_)); apply Exists.intro; refine ⟨?_, ?_⟩; · (intro a w' hR; intro h1; (first | (have e1 : _ = _ := h1) | skip); go_simp; rfl)) | ((first | (refine wpM_val0 Ext.refl rfl ?_) | (refine wpM_val1 Ext.refl rfl rfl ?_)); apply Exists.intro; refine ⟨?_, ?_⟩; · (intro a w' hR; go_simp; rfl)) | ((first | (refine wpM_val0 Ext.refl rfl ?_) | (refine wpM_val1 Ext.refl rfl rfl ?_)); apply Exists.intro; refine ⟨?_, ?_⟩; · (intro a w' hR; intro h1; (first | (have e1 : _ = _ := h1) | skip); intro h2; (first | (have e2 : _ = _ := h2) | skip); intro h3; (first | (have e3 : _ = _ := h3) | skip); go_simp; rfl)) | (refine wpM_skip1 rfl ?_) | (refine wpM_skipU rfl ?_))
        (first | (refine wpM_val0 Ext.refl rfl ?_) | (refine wpM_val1 Ext.refl rfl rfl ?_)); apply Exists.intro; refine ⟨?_, ?_⟩
        · intro a w' hR h1
          have e1 : _ = _ := h1
          have hl0 := hR.cell c0
          go_simp
          rfl
        repeat (first | ((first | (refine wpM_move00 Ext.refl rfl rfl rfl ?_) | (refine wpM_move01 Ext.refl rfl rfl rfl rfl ?_)); apply Exists.intro; refine ⟨?_, ?_⟩; · (go_simp; rfl)) | (first | (refine wpM_movek0 Ext.refl rfl rfl rfl ?_) | (refine wpM_movek1 Ext.refl rfl rfl rfl rfl ?_)) | ((first | (refine wpM_val0 Ext.refl rfl ?_) | (refine wpM_val1 Ext.refl rfl rfl ?_)); apply Exists.intro; refine ⟨?_, ?_⟩; · (intro a w' hR; intro h1; (first | (have e1 : _ = _ := h1) | skip); intro h2; (first | (have e2 : _ = _ := h2) | skip); go_simp; rfl)) | ((first | (refine wpM_val0 Ext.refl rfl ?_) | (refine wpM_val1 Ext.refl rfl rfl ?_)); apply Exists.intro; refine ⟨?_, ?_⟩; · (intro a w' hR; intro h1; (first | (have e1 : _ = _ := h1) | skip); go_simp; rfl)) | ((first | (refine wpM_val0 Ext.refl rfl ?_) | (refine wpM_val1 Ext.refl rfl rfl ?_)); apply Exists.intro; refine ⟨?_, ?_⟩; · (intro a w' hR; go_simp; rfl)) | ((first | (refine wpM_val0 Ext.refl rfl ?_) | (refine wpM_val1 Ext.refl rfl rfl ?_)); apply Exists.intro; refine ⟨?_, ?_⟩; · (intro a w' hR; intro h1; (first | (have e1 : _ = _ := h1) | skip); intro h2; (first | (have e2 : _ = _ := h2) | skip); intro h3; (first | (have e3 : _ = _ := h3) | skip); go_simp; rfl)) | (refine wpM_skip1 rfl ?_) | (refine wpM_skipU rfl ?_))
        (first | (refine wpM_val0 Ext.refl rfl ?_) | (refine wpM_val1 Ext.refl rfl rfl ?_)); apply Exists.intro; refine ⟨?_, ?_⟩
        · intro a w' hR h1
          have e1 : _ = _ := h1
          have hl0 := hR.cell d0
          go_simp
          rfl
        first | (refine wpM_call0 (fun v _ => v = .bool true) rfl (by first | exact mono_eq | exact (fun _ _ _ ⟨n, h1, h2, h3⟩ k => ⟨n, h1, h2, h3.ext k⟩) | exact (fun _ _ _ h k => RB.ext h k) | exact (fun _ _ _ h k => OB.ext h k) | exact (fun _ _ _ h k => Rd.ext h k) | exact (fun _ _ _ h k => ownsRow_ext h k) | exact (fun _ _ _ h k => RB.extC h k) | exact (fun _ _ _ h k => FB.extC h k) | exact (fun _ _ _ h k => Rd.extC h k) | exact (fun _ _ _ h k => RP.ext h k) | exact (fun _ _ _ h k => RE.ext h k)) ?_ ?_) | (refine wpM_call1 (fun v _ => v = .bool true) rfl rfl (by first | exact mono_eq | exact (fun _ _ _ ⟨n, h1, h2, h3⟩ k => ⟨n, h1, h2, h3.ext k⟩) | exact (fun _ _ _ h k => RB.ext h k) | exact (fun _ _ _ h k => OB.ext h k) | exact (fun _ _ _ h k => Rd.ext h k) | exact (fun _ _ _ h k => ownsRow_ext h k) | exact (fun _ _ _ h k => RB.extC h k) | exact (fun _ _ _ h k => FB.extC h k) | exact (fun _ _ _ h k => Rd.extC h k) | exact (fun _ _ _ h k => RP.ext h k) | exact (fun _ _ _ h k => RE.ext h k)) ?_ ?_)
        · intro a w' hR h1 h2 K hK
          have e1 : _ = _ := h1
          have e2 : _ = _ := h2
          go_simp
          refine (live_exact _ _ row row true w' (by simp) (HU.out.ext hR) (HZ.out.ext hR)).mono ?_
          rintro e w2 ⟨rfl, he⟩
          exact hK _ _ he rfl
        repeat (first | ((first | (refine wpM_move00 Ext.refl rfl rfl rfl ?_) | (refine wpM_move01 Ext.refl rfl rfl rfl rfl ?_)); apply Exists.intro; refine ⟨?_, ?_⟩; · (go_simp; rfl)) | (first | (refine wpM_movek0 Ext.refl rfl rfl rfl ?_) | (refine wpM_movek1 Ext.refl rfl rfl rfl rfl ?_)) | ((first | (refine wpM_val0 Ext.refl rfl ?_) | (refine wpM_val1 Ext.refl rfl rfl ?_)); apply Exists.intro; refine ⟨?_, ?_⟩; · (intro a w' hR; intro h1; (first | (have e1 : _ = _ := h1) | skip); intro h2; (first | (have e2 : _ = _ := h2) | skip); go_simp; rfl)) | ((first | (refine wpM_val0 Ext.refl rfl ?_) | (refine wpM_val1 Ext.refl rfl rfl ?_)); apply Exists.intro; refine ⟨?_, ?_⟩; · (intro a w' hR; intro h1; (first | (have e1 : _ = _ := h1) | skip); go_simp; rfl)) | ((first | (refine wpM_val0 Ext.refl rfl ?_) | (refine wpM_val1 Ext.refl rfl rfl ?_)); apply Exists.intro; refine ⟨?_, ?_⟩; · (intro a w' hR; go_simp; rfl)) | ((first | (refine wpM_val0 Ext.refl rfl ?_) | (refine wpM_val1 Ext.refl rfl rfl ?_)); apply Exists.intro; refine ⟨?_, ?_⟩; · (intro a w' hR; intro h1; (first | (have e1 : _ = _ := h1) | skip); intro h2; (first | (have e2 : _ = _ := h2) | skip); intro h3; (first | (have e3 : _ = _ := h3) | skip); go_simp; rfl)) | (refine wpM_skip1 rfl ?_) | (refine wpM_skipU rfl ?_))
        refine wpM_done ?_
        intro w12 hx12
        iterate 10 (rintro _ rfl)
        dsimp only [FinV]
        go_simp
        have HX12 := Lib.hid (HE.out.trans hx12)
        clear hx12
        go_wp2
        exact ⟨⟨k + 1, HLT.out, by go_num, HX12.out⟩, by have := HLT.out; simp [intOf]; omega⟩
      · have hk2 : k = G.length := by omega
        subst hk2
        have g1 : ¬ (G.length : Int) < (G.length : Int) := by omega
        clear hext hgl
        go_wp2
        go_ret
        exact ⟨rfl, HX11.out.trans HE.out⟩
  · have hn : (f != 0) = true := by simpa using hf
    have hz1 : (when0 f (Rec.srt l)).length = 0 := by rw [when0_no hf]; rfl
    have hz2 : (when0 f (dis l)).length = 0 := by rw [when0_no hf]; rfl
    have hz3 : (when0 f (Rec.grp l)).length = 0 := by rw [when0_no hf]; rfl
    clear HR6
    generalize (when0 f (Rec.srt l)).length = z1 at *
    generalize (when0 f (dis l)).length = z2 at *
    generalize (when0 f (Rec.grp l)).length = z3 at *
    subst hz1 hz2 hz3
    clear hf
    go_wp2
    go_ret
    exact ⟨rfl, HX6.out⟩
theorem recSorts_law (u v : Value) (l : List Rec.R) (r : Rec.R) (w : World) (hu : RP w u l) (hv : v = mV r) :
    Calls Try.prog 8 #[u, v] w fun e w' => e = .returned (.bool true) ∧ Ext w w' := by
  subst hv
  by_cases h : 5000 < l.length
  · obtain ⟨A, c, rfl⟩ := hu.form
    exact recSorts_long r _ c A w h
  · exact recSorts_any r u l w hu (by omega)
theorem recSorts_row (w : World) (u : Value) (l : List Rec.R) (hu : RP w u l) (v : Value) (r : Rec.R) (hv : v = mV r) :
    Calls Try.prog 8 #[u, v] w fun e w' => e = .returned (.bool true) ∧ Ext w w' := recSorts_law u v l r w hu hv
end Go.Proofs.Ytgmaeeihfoicmaa
