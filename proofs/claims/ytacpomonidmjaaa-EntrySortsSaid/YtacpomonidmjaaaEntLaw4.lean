/-
  Layer 7: EntrySorts.
-/
import Derived.Test.YtacpomonidmjaaaEntLives
namespace Go.Proofs.Ytacpomonidmjaaa
open Go.RowKit Go.Ox Go.Shelf
set_option linter.unusedVariables false
set_option linter.unusedSimpArgs false
theorem sorted_isB (v : Value) (l : List Ent.E) (q : Bool) (hq : q = true ↔ Ent.Asc l) (w : World) (hv : RE w v l) (hl : l.length ≤ 1000000) :
    Calls Try.prog 15 #[v] w fun e w' => e = .returned (.bool q) ∧ Ext w w' := by
  refine (entSorted_any v l w hv hl).mono ?_
  rintro e w' ⟨b, rfl, hb, he⟩
  exact ⟨by rw [show b = q from by rw [Bool.eq_iff_iff]; exact hb.trans hq.symm], he⟩
theorem rsorted_isB (v : Value) (l : List Ent.E) (q : Bool) (hq : q = true ↔ Ent.Asc l) (w : World) (hv : RE w v l) (hl : l.length ≤ 1000000) :
    Calls Try.prog 16 #[v] w fun e w' => e = .returned (.bool q) ∧ Ext w w' := by
  refine (rsortedE_any v l w hv hl).mono ?_
  rintro e w' ⟨b, rfl, hb, he⟩
  exact ⟨by rw [show b = q from by rw [Bool.eq_iff_iff]; exact hb.trans hq.symm], he⟩
theorem size_bad {x : Ent.E} (h : Ent.okE x ≠ 0) : sizeE x = 0 := by unfold sizeE; rw [if_neg h]
theorem size_ok {x : Ent.E} (h : Ent.okE x = 0) : sizeE x = (Ent.entL x).length := by unfold sizeE; rw [if_pos h]
/-- the two entries' boxes -/
structure Bx8 (w : World) (p q : Nat) (a1 a2 a3 a4 b1 b2 b3 b4 : Int) : Prop where
  a : Bx4 w p a1 a2 a3 a4
  b : Bx4 w q b1 b2 b3 b4
theorem Bx8.ext {w w' : World} {p q : Nat} {a1 a2 a3 a4 b1 b2 b3 b4 : Int} (h : Bx8 w p q a1 a2 a3 a4 b1 b2 b3 b4) (he : Ext w w') : Bx8 w' p q a1 a2 a3 a4 b1 b2 b3 b4 := ⟨h.a.ext he, h.b.ext he⟩
attribute [local irreducible] RE RB RP OP OE

set_option maxRecDepth 100000 in
set_option maxHeartbeats 16000000 in
theorem entrySorts_row (v : Value) (l : List Ent.E) (x y : Ent.E) (w : World) (hv : RE w v l) :
    Calls Try.prog 3 #[v, entV x, entV y] w fun e w' => e = .returned (.bool true) ∧ Ext w w' := by
  have hm9 := (RE.rd hv).len_le
  unfold maxLen at hm9
  obtain ⟨A, c, rfl⟩ := hv.form
  have HCX := Lib.hid (fun w => checkE_any x w)
  have HRX := Lib.hid (fun w => rcheckE_any x w)
  have HCM := Lib.hid (fun w => compareE_any x y w)
  have HRM := Lib.hid (fun w => rcompareE_any x y w)
  have HSZ := Lib.hid (fun w => sizeE_any x w)
  have HPT := Lib.hid (fun w h => rputE_any x w h)
  have HS0 := Lib.hid (fun h => @size_bad x h)
  have HS1 := Lib.hid (fun h => @size_ok x h)
  generalize Ent.okE x = ox at *
  generalize sizeE x = sz at *
  generalize Ent.entL x = eb at *
  generalize Ent.cmp x y = cm at *
  have hox : (ox != ox) = false := by simp
  have hcm : (cm != cm) = false := by simp
  obtain ⟨⟨a1, a2⟩, a3, a4⟩ := x
  obtain ⟨⟨b1, b2⟩, b3, b4⟩ := y
  have HX0 := Lib.hid ((Ext.refl w).alloc (.cells #[.int .i64 a1, .int .i64 a2, .int .i64 a3, .int .i64 a4] 28))
  have HA0 := Lib.hid (Bx4.new w 28 a1 a2 a3 a4)
  obtain ⟨w0, hw0⟩ : ∃ w0, w.alloc (.cells #[.int .i64 a1, .int .i64 a2, .int .i64 a3, .int .i64 a4] 28) = w0 := ⟨_, rfl⟩
  have HX1 := Lib.hid ((Ext.refl w0).alloc (.cells #[.int .i64 b1, .int .i64 b2, .int .i64 b3, .int .i64 b4] 28))
  have HB0 := Lib.hid (Bx4.new w0 28 b1 b2 b3 b4)
  rw [hw0] at HX0 HA0
  have HBX := Lib.hid (Bx8.mk (HA0.out.ext HX1.out) HB0.out)
  have HX := Lib.hid (HX0.out.trans HX1.out)
  have HV := Lib.hid (hv.ext HX.out)
  clear HA0 HB0 HX0 HX1 hv
  by_cases hA : 32768 < l.length
  · have g : (500 : Int) < (l.length : Int) := by omega
    have g2 : ¬ (l.length : Int) ≤ 16384 := by omega
    have g3 : (32768 : Int) < (l.length : Int) := by omega
    go_enter Try.func3, Try.ntmps3
    go_wp2_with fail
    try rw [hw0]
    refine (lives_any _).mono ?_
    rintro e w1 ⟨rfl, he1⟩
    go_wp2
    go_ret
    exact ⟨rfl, HX.out.trans he1⟩
  have g3 : ¬ (32768 : Int) < (l.length : Int) := by omega
  by_cases hB : l.length ≤ 500
  · have g : ¬ (500 : Int) < (l.length : Int) := by omega
    have HM := Lib.hid (fun w h => rmayE_any (.slice A l.length c) l w h (by omega))
    have HSO := Lib.hid (fun v w h => sortE_all v l w h (by omega))
    have HRS := Lib.hid (fun w h => rsortE_any l (.slice A l.length c) w h (by omega))
    obtain ⟨qa, hqa⟩ : ∃ q : Bool, q = true ↔ Ent.Asc l := by
      by_cases h : Ent.Asc l
      · exact ⟨true, by simp [h]⟩
      · exact ⟨false, by simp [h]⟩
    have HSB := Lib.hid (fun v w h => sorted_isB v l qa hqa w h (by omega))
    have HRB := Lib.hid (fun w h => rsorted_isB (.slice A l.length c) l qa hqa w h (by omega))
    have hqq : (qa != qa) = false := by simp
    have HLEN := Lib.hid (show l.length ≤ 1000000 by omega)
    have HSL := Lib.hid (Ent.srt_len l)
    have hme : (Ent.may l != Ent.may l) = false := by simp
    clear hqa hm9 hB hA
    generalize Ent.may l = me at *
    generalize Ent.srt l = sl at *
    go_enter Try.func3, Try.ntmps3
    go_upto_region 1 with fail
    try rw [hw0]
    generalize w.heap.size = p at *
    generalize w0.heap.size = q at *
    generalize w0.alloc (.cells #[.int .i64 b1, .int .i64 b2, .int .i64 b3, .int .i64 b4] 28) = w1 at *
    clear hw0
    have HXL := Lib.hid ((Ext.refl w1).alloc (.cells #[] 28))
    have HOE := Lib.hid (own_litE w1 28)
    have HVL := Lib.hid (HV.out.ext HXL.out)
    have HB1 := Lib.hid HBX.out
    go_wp2_with (at_builtin; refine wpList_appE rfl elemE _ _ _ rfl w1.heap.size _ _ [] l rfl HOE.out rfl HVL.out (by have := HLEN.out; simp; omega) (by have := HLEN.out; unfold maxLen; simp; omega) HXL.out.size ?_; intro v2 w2 ho2 hg2 hat2; have hx2 : Ext w1 w2 := HXL.out.grown hat2 fun g hg => (HOE.out.own.lt g hg).1; have HX2 := Lib.hid hx2; have HO2 := Lib.hid (show RE w2 v2 l from ho2.re); obtain ⟨AO, cO, rfl⟩ := HO2.out.form; clear ho2 hg2 hat2 hx2)
    have HB2 := Lib.hid (HBX.out.ext HX2.out)
    clear HXL HOE HVL HB1 HBX
    go_wp2_with fail
    refine (HSO.out _ _ HO2.out).mono ?_
    rintro e w3 ⟨sv, rfl, hs3, he3⟩
    have HB3 := Lib.hid (HB2.out.ext he3)
    have HX3 := Lib.hid (HX2.out.trans he3)
    have HO3 := Lib.hid (HO2.out.ext he3)
    have HS3 := Lib.hid hs3
    clear he3 hs3 HB2 HX2 HO2
    go_wp2_with fail
    refine (HM.out _ (HV.out.ext HX3.out)).mono ?_
    rintro e w4 ⟨rfl, he4⟩
    have HB4 := Lib.hid (HB3.out.ext he4)
    have HX4 := Lib.hid (HX3.out.trans he4)
    have HO4 := Lib.hid (HO3.out.ext he4)
    have HS4 := Lib.hid (HS3.out.ext he4)
    have HV4 := Lib.hid (HV.out.ext HX4.out)
    clear he4 HB3 HX3 HO3 HS3
    obtain ⟨⟨c0, c1, c2, c3⟩, ⟨d0, d1, d2, d3⟩⟩ := HB4.out
    go_wp2
    refine wp_regionY [] [] Ext Ext (fun _ => True) (by kernel_rfl) (by rfl) (by rfl) (by kernel_rfl) (by kernel_rfl) (by kernel_rfl) (fun _ _ _ x y => x.trans y) Ext.refl (fun _ _ x => x) (Ext.refl _).drew (fun _ _ x _ => x) trivial ?_
    refine wpY_call (fun v _ => v = .bool true) rfl rfl (by first | exact runs0 | exact runs1 rfl) rfl (by first | exact mono_eq | exact (fun _ _ _ h k => Rd.ext h k) | exact (fun _ _ _ h k => RB.ext h k) | exact (fun _ _ _ h k => OB.ext h k) | exact (fun _ _ _ h k => RB.extS h k) | exact (fun _ _ _ h k => Rd.ext h (GrownW.ext k)) | exact (fun _ _ _ h k => RP.ext h k) | exact (fun _ _ _ h k => OP.ext h k) | exact (fun _ _ _ h k => Rd.extV h k) | exact (fun _ _ _ h k => RB.extV h k) | exact (fun _ _ _ h k => E0.ext h k) | exact (fun _ _ _ h k => O0.ext h k) | exact (fun _ _ _ h k => RE.ext h k) | exact (fun _ _ _ h k => RE.extD h k) | exact (fun _ _ _ h _ => h) | exact (fun _ _ _ ⟨n, h1, h2⟩ k => ⟨n, h1, k.st _ _ h2⟩)) ?_ ?_
    · intro a w' hR  K hK
      go_simp
      refine (lives_any w').mono ?_
      rintro e w2 ⟨rfl, he⟩
      exact hK _ _ he rfl
    repeat (first | (refine wpY_move0 rfl rfl (by first | exact runs0 | exact runs1 rfl) Ext.refl rfl rfl rfl ?_; apply Exists.intro; refine ⟨?_, ?_⟩; · (go_simp; rfl)) | (refine wpY_move rfl rfl (by first | exact runs0 | exact runs1 rfl) Ext.refl rfl rfl rfl (fun _ _ _ h _ => h) ?_) | (refine wpY_val rfl rfl (by first | exact runs0 | exact runs1 rfl) Ext.refl rfl ?_; apply Exists.intro; refine ⟨?_, ?_⟩; · (intro a w' hR; intro h1; (first | (have e1 : _ = _ := h1) | skip); intro h2; (first | (have e2 : _ = _ := h2) | skip); go_simp; rfl)) | (refine wpY_val rfl rfl (by first | exact runs0 | exact runs1 rfl) Ext.refl rfl ?_; apply Exists.intro; refine ⟨?_, ?_⟩; · (intro a w' hR; intro h1; (first | (have e1 : _ = _ := h1) | skip); go_simp; rfl)) | (refine wpY_val rfl rfl (by first | exact runs0 | exact runs1 rfl) Ext.refl rfl ?_; apply Exists.intro; refine ⟨?_, ?_⟩; · (intro a w' hR; go_simp; rfl)) | (refine wpY_val rfl rfl (by first | exact runs0 | exact runs1 rfl) Ext.refl rfl ?_; apply Exists.intro; refine ⟨?_, ?_⟩; · (intro a w' hR; intro h1; (first | (have e1 : _ = _ := h1) | skip); intro h2; (first | (have e2 : _ = _ := h2) | skip); intro h3; (first | (have e3 : _ = _ := h3) | skip); go_simp; rfl)) | (refine wpY_skip rfl rfl (by first | exact .inl rfl | exact .inr rfl) ?_))
    refine wpY_val rfl rfl (by first | exact runs0 | exact runs1 rfl) Ext.refl rfl ?_; apply Exists.intro; refine ⟨?_, ?_⟩
    · intro a w' hR h1
      have e1 : _ = _ := h1
      have hl0 := hR.cell c0
      have hl1 := hR.cell c1
      have hl2 := hR.cell c2
      have hl3 := hR.cell c3
      go_simp
      rfl
    refine wpY_call (fun v _ => v = .int .i64 ox) rfl rfl (by first | exact runs0 | exact runs1 rfl) rfl (by first | exact mono_eq | exact (fun _ _ _ h k => Rd.ext h k) | exact (fun _ _ _ h k => RB.ext h k) | exact (fun _ _ _ h k => OB.ext h k) | exact (fun _ _ _ h k => RB.extS h k) | exact (fun _ _ _ h k => Rd.ext h (GrownW.ext k)) | exact (fun _ _ _ h k => RP.ext h k) | exact (fun _ _ _ h k => OP.ext h k) | exact (fun _ _ _ h k => Rd.extV h k) | exact (fun _ _ _ h k => RB.extV h k) | exact (fun _ _ _ h k => E0.ext h k) | exact (fun _ _ _ h k => O0.ext h k) | exact (fun _ _ _ h k => RE.ext h k) | exact (fun _ _ _ h k => RE.extD h k) | exact (fun _ _ _ h _ => h) | exact (fun _ _ _ ⟨n, h1, h2⟩ k => ⟨n, h1, k.st _ _ h2⟩)) ?_ ?_
    · intro a w' hR h1 K hK
      have e1 : _ = _ := h1
      go_simp
      refine (HCX.out w').mono ?_
      rintro e w2 ⟨rfl, he⟩
      exact hK _ _ he rfl
    refine wpY_val rfl rfl (by first | exact runs0 | exact runs1 rfl) Ext.refl rfl ?_; apply Exists.intro; refine ⟨?_, ?_⟩
    · intro a w' hR h1
      have e1 : _ = _ := h1
      have hl0 := hR.cell c0
      have hl1 := hR.cell c1
      have hl2 := hR.cell c2
      have hl3 := hR.cell c3
      go_simp
      rfl
    refine wpY_call (fun v _ => v = .int .i64 ox) rfl rfl (by first | exact runs0 | exact runs1 rfl) rfl (by first | exact mono_eq | exact (fun _ _ _ h k => Rd.ext h k) | exact (fun _ _ _ h k => RB.ext h k) | exact (fun _ _ _ h k => OB.ext h k) | exact (fun _ _ _ h k => RB.extS h k) | exact (fun _ _ _ h k => Rd.ext h (GrownW.ext k)) | exact (fun _ _ _ h k => RP.ext h k) | exact (fun _ _ _ h k => OP.ext h k) | exact (fun _ _ _ h k => Rd.extV h k) | exact (fun _ _ _ h k => RB.extV h k) | exact (fun _ _ _ h k => E0.ext h k) | exact (fun _ _ _ h k => O0.ext h k) | exact (fun _ _ _ h k => RE.ext h k) | exact (fun _ _ _ h k => RE.extD h k) | exact (fun _ _ _ h _ => h) | exact (fun _ _ _ ⟨n, h1, h2⟩ k => ⟨n, h1, k.st _ _ h2⟩)) ?_ ?_
    · intro a w' hR h1 K hK
      have e1 : _ = _ := h1
      go_simp
      refine (HRX.out w').mono ?_
      rintro e w2 ⟨rfl, he⟩
      exact hK _ _ he rfl
    repeat (first | (refine wpY_move0 rfl rfl (by first | exact runs0 | exact runs1 rfl) Ext.refl rfl rfl rfl ?_; apply Exists.intro; refine ⟨?_, ?_⟩; · (go_simp; rfl)) | (refine wpY_move rfl rfl (by first | exact runs0 | exact runs1 rfl) Ext.refl rfl rfl rfl (fun _ _ _ h _ => h) ?_) | (refine wpY_val rfl rfl (by first | exact runs0 | exact runs1 rfl) Ext.refl rfl ?_; apply Exists.intro; refine ⟨?_, ?_⟩; · (intro a w' hR; intro h1; (first | (have e1 : _ = _ := h1) | skip); intro h2; (first | (have e2 : _ = _ := h2) | skip); go_simp; rfl)) | (refine wpY_val rfl rfl (by first | exact runs0 | exact runs1 rfl) Ext.refl rfl ?_; apply Exists.intro; refine ⟨?_, ?_⟩; · (intro a w' hR; intro h1; (first | (have e1 : _ = _ := h1) | skip); go_simp; rfl)) | (refine wpY_val rfl rfl (by first | exact runs0 | exact runs1 rfl) Ext.refl rfl ?_; apply Exists.intro; refine ⟨?_, ?_⟩; · (intro a w' hR; go_simp; rfl)) | (refine wpY_val rfl rfl (by first | exact runs0 | exact runs1 rfl) Ext.refl rfl ?_; apply Exists.intro; refine ⟨?_, ?_⟩; · (intro a w' hR; intro h1; (first | (have e1 : _ = _ := h1) | skip); intro h2; (first | (have e2 : _ = _ := h2) | skip); intro h3; (first | (have e3 : _ = _ := h3) | skip); go_simp; rfl)) | (refine wpY_skip rfl rfl (by first | exact .inl rfl | exact .inr rfl) ?_))
    refine wpY_val rfl rfl (by first | exact runs0 | exact runs1 rfl) Ext.refl rfl ?_; apply Exists.intro; refine ⟨?_, ?_⟩
    · intro a w' hR h1
      have e1 : _ = _ := h1
      have hl0 := hR.cell c0
      have hl1 := hR.cell c1
      have hl2 := hR.cell c2
      have hl3 := hR.cell c3
      go_simp
      rfl
    refine wpY_val rfl rfl (by first | exact runs0 | exact runs1 rfl) Ext.refl rfl ?_; apply Exists.intro; refine ⟨?_, ?_⟩
    · intro a w' hR h1
      have e1 : _ = _ := h1
      have hl0 := hR.cell d0
      have hl1 := hR.cell d1
      have hl2 := hR.cell d2
      have hl3 := hR.cell d3
      go_simp
      rfl
    refine wpY_call (fun v _ => v = .int .i64 cm) rfl rfl (by first | exact runs0 | exact runs1 rfl) rfl (by first | exact mono_eq | exact (fun _ _ _ h k => Rd.ext h k) | exact (fun _ _ _ h k => RB.ext h k) | exact (fun _ _ _ h k => OB.ext h k) | exact (fun _ _ _ h k => RB.extS h k) | exact (fun _ _ _ h k => Rd.ext h (GrownW.ext k)) | exact (fun _ _ _ h k => RP.ext h k) | exact (fun _ _ _ h k => OP.ext h k) | exact (fun _ _ _ h k => Rd.extV h k) | exact (fun _ _ _ h k => RB.extV h k) | exact (fun _ _ _ h k => E0.ext h k) | exact (fun _ _ _ h k => O0.ext h k) | exact (fun _ _ _ h k => RE.ext h k) | exact (fun _ _ _ h k => RE.extD h k) | exact (fun _ _ _ h _ => h) | exact (fun _ _ _ ⟨n, h1, h2⟩ k => ⟨n, h1, k.st _ _ h2⟩)) ?_ ?_
    · intro a w' hR h1 h2 K hK
      have e1 : _ = _ := h1
      have e2 : _ = _ := h2
      go_simp
      refine (HCM.out w').mono ?_
      rintro e w2 ⟨rfl, he⟩
      exact hK _ _ he rfl
    refine wpY_val rfl rfl (by first | exact runs0 | exact runs1 rfl) Ext.refl rfl ?_; apply Exists.intro; refine ⟨?_, ?_⟩
    · intro a w' hR h1
      have e1 : _ = _ := h1
      have hl0 := hR.cell c0
      have hl1 := hR.cell c1
      have hl2 := hR.cell c2
      have hl3 := hR.cell c3
      go_simp
      rfl
    refine wpY_val rfl rfl (by first | exact runs0 | exact runs1 rfl) Ext.refl rfl ?_; apply Exists.intro; refine ⟨?_, ?_⟩
    · intro a w' hR h1
      have e1 : _ = _ := h1
      have hl0 := hR.cell d0
      have hl1 := hR.cell d1
      have hl2 := hR.cell d2
      have hl3 := hR.cell d3
      go_simp
      rfl
    refine wpY_call (fun v _ => v = .int .i64 cm) rfl rfl (by first | exact runs0 | exact runs1 rfl) rfl (by first | exact mono_eq | exact (fun _ _ _ h k => Rd.ext h k) | exact (fun _ _ _ h k => RB.ext h k) | exact (fun _ _ _ h k => OB.ext h k) | exact (fun _ _ _ h k => RB.extS h k) | exact (fun _ _ _ h k => Rd.ext h (GrownW.ext k)) | exact (fun _ _ _ h k => RP.ext h k) | exact (fun _ _ _ h k => OP.ext h k) | exact (fun _ _ _ h k => Rd.extV h k) | exact (fun _ _ _ h k => RB.extV h k) | exact (fun _ _ _ h k => E0.ext h k) | exact (fun _ _ _ h k => O0.ext h k) | exact (fun _ _ _ h k => RE.ext h k) | exact (fun _ _ _ h k => RE.extD h k) | exact (fun _ _ _ h _ => h) | exact (fun _ _ _ ⟨n, h1, h2⟩ k => ⟨n, h1, k.st _ _ h2⟩)) ?_ ?_
    · intro a w' hR h1 h2 K hK
      have e1 : _ = _ := h1
      have e2 : _ = _ := h2
      go_simp
      refine (HRM.out w').mono ?_
      rintro e w2 ⟨rfl, he⟩
      exact hK _ _ he rfl
    repeat (first | (refine wpY_move0 rfl rfl (by first | exact runs0 | exact runs1 rfl) Ext.refl rfl rfl rfl ?_; apply Exists.intro; refine ⟨?_, ?_⟩; · (go_simp; rfl)) | (refine wpY_move rfl rfl (by first | exact runs0 | exact runs1 rfl) Ext.refl rfl rfl rfl (fun _ _ _ h _ => h) ?_) | (refine wpY_val rfl rfl (by first | exact runs0 | exact runs1 rfl) Ext.refl rfl ?_; apply Exists.intro; refine ⟨?_, ?_⟩; · (intro a w' hR; intro h1; (first | (have e1 : _ = _ := h1) | skip); intro h2; (first | (have e2 : _ = _ := h2) | skip); go_simp; rfl)) | (refine wpY_val rfl rfl (by first | exact runs0 | exact runs1 rfl) Ext.refl rfl ?_; apply Exists.intro; refine ⟨?_, ?_⟩; · (intro a w' hR; intro h1; (first | (have e1 : _ = _ := h1) | skip); go_simp; rfl)) | (refine wpY_val rfl rfl (by first | exact runs0 | exact runs1 rfl) Ext.refl rfl ?_; apply Exists.intro; refine ⟨?_, ?_⟩; · (intro a w' hR; go_simp; rfl)) | (refine wpY_val rfl rfl (by first | exact runs0 | exact runs1 rfl) Ext.refl rfl ?_; apply Exists.intro; refine ⟨?_, ?_⟩; · (intro a w' hR; intro h1; (first | (have e1 : _ = _ := h1) | skip); intro h2; (first | (have e2 : _ = _ := h2) | skip); intro h3; (first | (have e3 : _ = _ := h3) | skip); go_simp; rfl)) | (refine wpY_skip rfl rfl (by first | exact .inl rfl | exact .inr rfl) ?_))
    refine wpY_call (fun v _ => v = .bool qa) rfl rfl (by first | exact runs0 | exact runs1 rfl) rfl (by first | exact mono_eq | exact (fun _ _ _ h k => Rd.ext h k) | exact (fun _ _ _ h k => RB.ext h k) | exact (fun _ _ _ h k => OB.ext h k) | exact (fun _ _ _ h k => RB.extS h k) | exact (fun _ _ _ h k => Rd.ext h (GrownW.ext k)) | exact (fun _ _ _ h k => RP.ext h k) | exact (fun _ _ _ h k => OP.ext h k) | exact (fun _ _ _ h k => Rd.extV h k) | exact (fun _ _ _ h k => RB.extV h k) | exact (fun _ _ _ h k => E0.ext h k) | exact (fun _ _ _ h k => O0.ext h k) | exact (fun _ _ _ h k => RE.ext h k) | exact (fun _ _ _ h k => RE.extD h k) | exact (fun _ _ _ h _ => h) | exact (fun _ _ _ ⟨n, h1, h2⟩ k => ⟨n, h1, k.st _ _ h2⟩)) ?_ ?_
    · intro a w' hR h1 K hK
      have e1 : _ = _ := h1
      go_simp
      refine (HSB.out _ w' (HO4.out.ext hR)).mono ?_
      rintro e w2 ⟨rfl, he⟩
      exact hK _ _ he rfl
    repeat (first | (refine wpY_move0 rfl rfl (by first | exact runs0 | exact runs1 rfl) Ext.refl rfl rfl rfl ?_; apply Exists.intro; refine ⟨?_, ?_⟩; · (go_simp; rfl)) | (refine wpY_move rfl rfl (by first | exact runs0 | exact runs1 rfl) Ext.refl rfl rfl rfl (fun _ _ _ h _ => h) ?_) | (refine wpY_val rfl rfl (by first | exact runs0 | exact runs1 rfl) Ext.refl rfl ?_; apply Exists.intro; refine ⟨?_, ?_⟩; · (intro a w' hR; intro h1; (first | (have e1 : _ = _ := h1) | skip); intro h2; (first | (have e2 : _ = _ := h2) | skip); go_simp; rfl)) | (refine wpY_val rfl rfl (by first | exact runs0 | exact runs1 rfl) Ext.refl rfl ?_; apply Exists.intro; refine ⟨?_, ?_⟩; · (intro a w' hR; intro h1; (first | (have e1 : _ = _ := h1) | skip); go_simp; rfl)) | (refine wpY_val rfl rfl (by first | exact runs0 | exact runs1 rfl) Ext.refl rfl ?_; apply Exists.intro; refine ⟨?_, ?_⟩; · (intro a w' hR; go_simp; rfl)) | (refine wpY_val rfl rfl (by first | exact runs0 | exact runs1 rfl) Ext.refl rfl ?_; apply Exists.intro; refine ⟨?_, ?_⟩; · (intro a w' hR; intro h1; (first | (have e1 : _ = _ := h1) | skip); intro h2; (first | (have e2 : _ = _ := h2) | skip); intro h3; (first | (have e3 : _ = _ := h3) | skip); go_simp; rfl)) | (refine wpY_skip rfl rfl (by first | exact .inl rfl | exact .inr rfl) ?_))
    refine wpY_call (fun v _ => v = .bool qa) rfl rfl (by first | exact runs0 | exact runs1 rfl) rfl (by first | exact mono_eq | exact (fun _ _ _ h k => Rd.ext h k) | exact (fun _ _ _ h k => RB.ext h k) | exact (fun _ _ _ h k => OB.ext h k) | exact (fun _ _ _ h k => RB.extS h k) | exact (fun _ _ _ h k => Rd.ext h (GrownW.ext k)) | exact (fun _ _ _ h k => RP.ext h k) | exact (fun _ _ _ h k => OP.ext h k) | exact (fun _ _ _ h k => Rd.extV h k) | exact (fun _ _ _ h k => RB.extV h k) | exact (fun _ _ _ h k => E0.ext h k) | exact (fun _ _ _ h k => O0.ext h k) | exact (fun _ _ _ h k => RE.ext h k) | exact (fun _ _ _ h k => RE.extD h k) | exact (fun _ _ _ h _ => h) | exact (fun _ _ _ ⟨n, h1, h2⟩ k => ⟨n, h1, k.st _ _ h2⟩)) ?_ ?_
    · intro a w' hR h1 K hK
      have e1 : _ = _ := h1
      go_simp
      refine (HRB.out w' (HV4.out.ext hR)).mono ?_
      rintro e w2 ⟨rfl, he⟩
      exact hK _ _ he rfl
    repeat (first | (refine wpY_move0 rfl rfl (by first | exact runs0 | exact runs1 rfl) Ext.refl rfl rfl rfl ?_; apply Exists.intro; refine ⟨?_, ?_⟩; · (go_simp; rfl)) | (refine wpY_move rfl rfl (by first | exact runs0 | exact runs1 rfl) Ext.refl rfl rfl rfl (fun _ _ _ h _ => h) ?_) | (refine wpY_val rfl rfl (by first | exact runs0 | exact runs1 rfl) Ext.refl rfl ?_; apply Exists.intro; refine ⟨?_, ?_⟩; · (intro a w' hR; intro h1; (first | (have e1 : _ = _ := h1) | skip); intro h2; (first | (have e2 : _ = _ := h2) | skip); go_simp; rfl)) | (refine wpY_val rfl rfl (by first | exact runs0 | exact runs1 rfl) Ext.refl rfl ?_; apply Exists.intro; refine ⟨?_, ?_⟩; · (intro a w' hR; intro h1; (first | (have e1 : _ = _ := h1) | skip); go_simp; rfl)) | (refine wpY_val rfl rfl (by first | exact runs0 | exact runs1 rfl) Ext.refl rfl ?_; apply Exists.intro; refine ⟨?_, ?_⟩; · (intro a w' hR; go_simp; rfl)) | (refine wpY_val rfl rfl (by first | exact runs0 | exact runs1 rfl) Ext.refl rfl ?_; apply Exists.intro; refine ⟨?_, ?_⟩; · (intro a w' hR; intro h1; (first | (have e1 : _ = _ := h1) | skip); intro h2; (first | (have e2 : _ = _ := h2) | skip); intro h3; (first | (have e3 : _ = _ := h3) | skip); go_simp; rfl)) | (refine wpY_skip rfl rfl (by first | exact .inl rfl | exact .inr rfl) ?_))
    refine wpY_call (fun v _ => v = .bool true) rfl rfl (by first | exact runs0 | exact runs1 rfl) rfl (by first | exact mono_eq | exact (fun _ _ _ h k => Rd.ext h k) | exact (fun _ _ _ h k => RB.ext h k) | exact (fun _ _ _ h k => OB.ext h k) | exact (fun _ _ _ h k => RB.extS h k) | exact (fun _ _ _ h k => Rd.ext h (GrownW.ext k)) | exact (fun _ _ _ h k => RP.ext h k) | exact (fun _ _ _ h k => OP.ext h k) | exact (fun _ _ _ h k => Rd.extV h k) | exact (fun _ _ _ h k => RB.extV h k) | exact (fun _ _ _ h k => E0.ext h k) | exact (fun _ _ _ h k => O0.ext h k) | exact (fun _ _ _ h k => RE.ext h k) | exact (fun _ _ _ h k => RE.extD h k) | exact (fun _ _ _ h _ => h) | exact (fun _ _ _ ⟨n, h1, h2⟩ k => ⟨n, h1, k.st _ _ h2⟩)) ?_ ?_
    · intro a w' hR h1 h2 K hK
      have e1 : _ = _ := h1
      have e2 : _ = _ := h2
      go_simp
      refine (sameE_is _ _ _ w' (HO4.out.ext hR) (HV4.out.ext hR)).mono ?_
      rintro e w2 ⟨rfl, he⟩
      exact hK _ _ he rfl
    repeat (first | (refine wpY_move0 rfl rfl (by first | exact runs0 | exact runs1 rfl) Ext.refl rfl rfl rfl ?_; apply Exists.intro; refine ⟨?_, ?_⟩; · (go_simp; rfl)) | (refine wpY_move rfl rfl (by first | exact runs0 | exact runs1 rfl) Ext.refl rfl rfl rfl (fun _ _ _ h _ => h) ?_) | (refine wpY_val rfl rfl (by first | exact runs0 | exact runs1 rfl) Ext.refl rfl ?_; apply Exists.intro; refine ⟨?_, ?_⟩; · (intro a w' hR; intro h1; (first | (have e1 : _ = _ := h1) | skip); intro h2; (first | (have e2 : _ = _ := h2) | skip); go_simp; rfl)) | (refine wpY_val rfl rfl (by first | exact runs0 | exact runs1 rfl) Ext.refl rfl ?_; apply Exists.intro; refine ⟨?_, ?_⟩; · (intro a w' hR; intro h1; (first | (have e1 : _ = _ := h1) | skip); go_simp; rfl)) | (refine wpY_val rfl rfl (by first | exact runs0 | exact runs1 rfl) Ext.refl rfl ?_; apply Exists.intro; refine ⟨?_, ?_⟩; · (intro a w' hR; go_simp; rfl)) | (refine wpY_val rfl rfl (by first | exact runs0 | exact runs1 rfl) Ext.refl rfl ?_; apply Exists.intro; refine ⟨?_, ?_⟩; · (intro a w' hR; intro h1; (first | (have e1 : _ = _ := h1) | skip); intro h2; (first | (have e2 : _ = _ := h2) | skip); intro h3; (first | (have e3 : _ = _ := h3) | skip); go_simp; rfl)) | (refine wpY_skip rfl rfl (by first | exact .inl rfl | exact .inr rfl) ?_))
    refine wpY_done ?_
    intro w7 hx7 hS
    iterate 36 (rintro _ rfl)
    dsimp only [FinV]
    go_simp
    have hx7 : Ext w4 w7 := hx7
    have HB7 := Lib.hid (HB4.out.ext hx7)
    have HX7 := Lib.hid (HX4.out.trans hx7)
    have HS7 := Lib.hid (HS4.out.ext hx7)
    clear c0 c1 c2 c3 d0 d1 d2 d3 hx7 hS HB4 HX4 HO4 HS4 HV4 HM HSO HSB HRB HCX HCM HRM
    obtain ⟨⟨c0, c1, c2, c3⟩, ⟨d0, d1, d2, d3⟩⟩ := HB7.out
    by_cases hoz : ox = 0
    · have HPU := Lib.hid (fun w => HPT.out w hoz)
      have hsz := HS1.out hoz
      subst hoz
      subst hsz
      clear HS0 HS1
      go_wp2_with fail
      refine (HRX.out _).mono ?_
      rintro e w8 ⟨rfl, he8⟩
      have HI8 := Lib.hid (HB7.out.ext he8)
      have HX8 := Lib.hid (HX7.out.trans he8)
      have HS8 := Lib.hid (HS7.out.ext he8)
      clear c0 c1 c2 c3 d0 d1 d2 d3 he8
      obtain ⟨⟨c0, c1, c2, c3⟩, -⟩ := HI8.out
      go_wp2_with fail
      refine (HPU.out _).mono ?_
      rintro e w9 ⟨pb, rfl, hpb, he9⟩
      obtain ⟨APB, cPB, rfl⟩ := hpb.form
      have HI9 := Lib.hid (HI8.out.ext he9)
      have HX9 := Lib.hid (HX8.out.trans he9)
      have HS9 := Lib.hid (HS8.out.ext he9)
      clear c0 c1 c2 c3 he9 hpb
      obtain ⟨⟨c0, c1, c2, c3⟩, -⟩ := HI9.out
      have hzz : ((eb.length : Int) != (eb.length : Int)) = false := by simp
      go_wp2_with fail
      refine (HSZ.out _).mono ?_
      rintro e w10 ⟨rfl, he10⟩
      have HX10 := Lib.hid (HX9.out.trans he10)
      have HS10 := Lib.hid (HS9.out.ext he10)
      clear c0 c1 c2 c3 he10
      by_cases hm0 : me = 0
      · subst hm0
        go_wp2_with fail
        refine (HRS.out _ (HV.out.ext HX10.out)).mono ?_
        rintro e w11 ⟨t, rfl, ht, he11⟩
        have HT11 := Lib.hid ht.re
        have HX11 := Lib.hid (HX10.out.trans he11)
        have HS11 := Lib.hid (HS10.out.ext he11)
        clear ht he11
        go_wp2_with fail
        refine (sameE_is _ _ _ _ HS11.out HT11.out).mono ?_
        rintro e w12 ⟨rfl, he12⟩
        go_wp2
        go_ret
        exact ⟨rfl, (HX.out.trans HX11.out).trans he12⟩
      · have hm2 : (me != 0) = true := by simpa using hm0
        have HS10 := Lib.hid (show RE w10 sv [] from by have h := HS10.out; rw [if_neg hm0] at h; exact h)
        obtain ⟨AS, cS, rfl⟩ : ∃ A c, sv = .slice A 0 c := HS10.out.form
        clear hm0
        go_wp2
        go_ret
        exact ⟨rfl, HX.out.trans HX10.out⟩
    · have h0z : (ox == 0) = false := by rw [beq_eq_false_iff_ne]; exact hoz
      have hsz := HS0.out hoz
      subst hsz
      clear HS0 HS1 HPT hoz
      go_wp2_with fail
      refine (HRX.out _).mono ?_
      rintro e w8 ⟨rfl, he8⟩
      have HI8 := Lib.hid (HB7.out.ext he8)
      have HX8 := Lib.hid (HX7.out.trans he8)
      have HS8 := Lib.hid (HS7.out.ext he8)
      clear c0 c1 c2 c3 d0 d1 d2 d3 he8
      obtain ⟨⟨c0, c1, c2, c3⟩, -⟩ := HI8.out
      have HX9 := HX8
      have HS9 := HS8
      go_wp2_with fail
      refine (HSZ.out _).mono ?_
      rintro e w10 ⟨rfl, he10⟩
      have HX10 := Lib.hid (HX9.out.trans he10)
      have HS10 := Lib.hid (HS9.out.ext he10)
      clear c0 c1 c2 c3 he10
      by_cases hm0 : me = 0
      · subst hm0
        go_wp2_with fail
        refine (HRS.out _ (HV.out.ext HX10.out)).mono ?_
        rintro e w11 ⟨t, rfl, ht, he11⟩
        have HT11 := Lib.hid ht.re
        have HX11 := Lib.hid (HX10.out.trans he11)
        have HS11 := Lib.hid (HS10.out.ext he11)
        clear ht he11
        go_wp2_with fail
        refine (sameE_is _ _ _ _ HS11.out HT11.out).mono ?_
        rintro e w12 ⟨rfl, he12⟩
        go_wp2
        go_ret
        exact ⟨rfl, (HX.out.trans HX11.out).trans he12⟩
      · have hm2 : (me != 0) = true := by simpa using hm0
        have HS10 := Lib.hid (show RE w10 sv [] from by have h := HS10.out; rw [if_neg hm0] at h; exact h)
        obtain ⟨AS, cS, rfl⟩ : ∃ A c, sv = .slice A 0 c := HS10.out.form
        clear hm0
        go_wp2
        go_ret
        exact ⟨rfl, HX.out.trans HX10.out⟩
  have g : (500 : Int) < (l.length : Int) := by omega
  by_cases hC : l.length ≤ 16384
  · have g2 : (l.length : Int) ≤ 16384 := by omega
    go_enter Try.func3, Try.ntmps3
    go_wp2_with fail
    try rw [hw0]
    refine (lives_any _).mono ?_
    rintro e w1 ⟨rfl, he1⟩
    go_wp2
    go_ret
    exact ⟨rfl, HX.out.trans he1⟩
  · have g2 : ¬ (l.length : Int) ≤ 16384 := by omega
    have HM := Lib.hid (fun w h => rmayE_any (.slice A l.length c) l w h (by omega))
    have HSO := Lib.hid (fun v w h => sortE_all v l w h (by omega))
    have HRS := Lib.hid (fun w h => rsortE_any l (.slice A l.length c) w h (by omega))
    obtain ⟨qa, hqa⟩ : ∃ q : Bool, q = true ↔ Ent.Asc l := by
      by_cases h : Ent.Asc l
      · exact ⟨true, by simp [h]⟩
      · exact ⟨false, by simp [h]⟩
    have HSB := Lib.hid (fun v w h => sorted_isB v l qa hqa w h (by omega))
    have HRB := Lib.hid (fun w h => rsorted_isB (.slice A l.length c) l qa hqa w h (by omega))
    have hqq : (qa != qa) = false := by simp
    have HLEN := Lib.hid (show l.length ≤ 1000000 by omega)
    have HSL := Lib.hid (Ent.srt_len l)
    have hme : (Ent.may l != Ent.may l) = false := by simp
    clear hqa hm9 hB hA hC
    generalize Ent.may l = me at *
    generalize Ent.srt l = sl at *
    go_enter Try.func3, Try.ntmps3
    go_upto_region 1 with fail
    try rw [hw0]
    generalize w.heap.size = p at *
    generalize w0.heap.size = q at *
    generalize w0.alloc (.cells #[.int .i64 b1, .int .i64 b2, .int .i64 b3, .int .i64 b4] 28) = w1 at *
    clear hw0
    have HXL := Lib.hid ((Ext.refl w1).alloc (.cells #[] 28))
    have HOE := Lib.hid (own_litE w1 28)
    have HVL := Lib.hid (HV.out.ext HXL.out)
    have HB1 := Lib.hid HBX.out
    go_wp2_with (at_builtin; refine wpList_appE rfl elemE _ _ _ rfl w1.heap.size _ _ [] l rfl HOE.out rfl HVL.out (by have := HLEN.out; simp; omega) (by have := HLEN.out; unfold maxLen; simp; omega) HXL.out.size ?_; intro v2 w2 ho2 hg2 hat2; have hx2 : Ext w1 w2 := HXL.out.grown hat2 fun g hg => (HOE.out.own.lt g hg).1; have HX2 := Lib.hid hx2; have HO2 := Lib.hid (show RE w2 v2 l from ho2.re); obtain ⟨AO, cO, rfl⟩ := HO2.out.form; clear ho2 hg2 hat2 hx2)
    have HB2 := Lib.hid (HBX.out.ext HX2.out)
    clear HXL HOE HVL HB1 HBX
    go_wp2_with fail
    refine (HSO.out _ _ HO2.out).mono ?_
    rintro e w3 ⟨sv, rfl, hs3, he3⟩
    have HB3 := Lib.hid (HB2.out.ext he3)
    have HX3 := Lib.hid (HX2.out.trans he3)
    have HO3 := Lib.hid (HO2.out.ext he3)
    have HS3 := Lib.hid hs3
    clear he3 hs3 HB2 HX2 HO2
    go_wp2_with fail
    refine (HM.out _ (HV.out.ext HX3.out)).mono ?_
    rintro e w4 ⟨rfl, he4⟩
    have HB4 := Lib.hid (HB3.out.ext he4)
    have HX4 := Lib.hid (HX3.out.trans he4)
    have HO4 := Lib.hid (HO3.out.ext he4)
    have HS4 := Lib.hid (HS3.out.ext he4)
    have HV4 := Lib.hid (HV.out.ext HX4.out)
    clear he4 HB3 HX3 HO3 HS3
    obtain ⟨⟨c0, c1, c2, c3⟩, ⟨d0, d1, d2, d3⟩⟩ := HB4.out
    go_wp2
    refine wp_regionY [] [] Ext Ext (fun _ => True) (by kernel_rfl) (by rfl) (by rfl) (by kernel_rfl) (by kernel_rfl) (by kernel_rfl) (fun _ _ _ x y => x.trans y) Ext.refl (fun _ _ x => x) (Ext.refl _).drew (fun _ _ x _ => x) trivial ?_
    refine wpY_call (fun v _ => v = .bool true) rfl rfl (by first | exact runs0 | exact runs1 rfl) rfl (by first | exact mono_eq | exact (fun _ _ _ h k => Rd.ext h k) | exact (fun _ _ _ h k => RB.ext h k) | exact (fun _ _ _ h k => OB.ext h k) | exact (fun _ _ _ h k => RB.extS h k) | exact (fun _ _ _ h k => Rd.ext h (GrownW.ext k)) | exact (fun _ _ _ h k => RP.ext h k) | exact (fun _ _ _ h k => OP.ext h k) | exact (fun _ _ _ h k => Rd.extV h k) | exact (fun _ _ _ h k => RB.extV h k) | exact (fun _ _ _ h k => E0.ext h k) | exact (fun _ _ _ h k => O0.ext h k) | exact (fun _ _ _ h k => RE.ext h k) | exact (fun _ _ _ h k => RE.extD h k) | exact (fun _ _ _ h _ => h) | exact (fun _ _ _ ⟨n, h1, h2⟩ k => ⟨n, h1, k.st _ _ h2⟩)) ?_ ?_
    · intro a w' hR  K hK
      go_simp
      refine (lives_any w').mono ?_
      rintro e w2 ⟨rfl, he⟩
      exact hK _ _ he rfl
    repeat (first | (refine wpY_move0 rfl rfl (by first | exact runs0 | exact runs1 rfl) Ext.refl rfl rfl rfl ?_; apply Exists.intro; refine ⟨?_, ?_⟩; · (go_simp; rfl)) | (refine wpY_move rfl rfl (by first | exact runs0 | exact runs1 rfl) Ext.refl rfl rfl rfl (fun _ _ _ h _ => h) ?_) | (refine wpY_val rfl rfl (by first | exact runs0 | exact runs1 rfl) Ext.refl rfl ?_; apply Exists.intro; refine ⟨?_, ?_⟩; · (intro a w' hR; intro h1; (first | (have e1 : _ = _ := h1) | skip); intro h2; (first | (have e2 : _ = _ := h2) | skip); go_simp; rfl)) | (refine wpY_val rfl rfl (by first | exact runs0 | exact runs1 rfl) Ext.refl rfl ?_; apply Exists.intro; refine ⟨?_, ?_⟩; · (intro a w' hR; intro h1; (first | (have e1 : _ = _ := h1) | skip); go_simp; rfl)) | (refine wpY_val rfl rfl (by first | exact runs0 | exact runs1 rfl) Ext.refl rfl ?_; apply Exists.intro; refine ⟨?_, ?_⟩; · (intro a w' hR; go_simp; rfl)) | (refine wpY_val rfl rfl (by first | exact runs0 | exact runs1 rfl) Ext.refl rfl ?_; apply Exists.intro; refine ⟨?_, ?_⟩; · (intro a w' hR; intro h1; (first | (have e1 : _ = _ := h1) | skip); intro h2; (first | (have e2 : _ = _ := h2) | skip); intro h3; (first | (have e3 : _ = _ := h3) | skip); go_simp; rfl)) | (refine wpY_skip rfl rfl (by first | exact .inl rfl | exact .inr rfl) ?_))
    refine wpY_val rfl rfl (by first | exact runs0 | exact runs1 rfl) Ext.refl rfl ?_; apply Exists.intro; refine ⟨?_, ?_⟩
    · intro a w' hR h1
      have e1 : _ = _ := h1
      have hl0 := hR.cell c0
      have hl1 := hR.cell c1
      have hl2 := hR.cell c2
      have hl3 := hR.cell c3
      go_simp
      rfl
    refine wpY_call (fun v _ => v = .int .i64 ox) rfl rfl (by first | exact runs0 | exact runs1 rfl) rfl (by first | exact mono_eq | exact (fun _ _ _ h k => Rd.ext h k) | exact (fun _ _ _ h k => RB.ext h k) | exact (fun _ _ _ h k => OB.ext h k) | exact (fun _ _ _ h k => RB.extS h k) | exact (fun _ _ _ h k => Rd.ext h (GrownW.ext k)) | exact (fun _ _ _ h k => RP.ext h k) | exact (fun _ _ _ h k => OP.ext h k) | exact (fun _ _ _ h k => Rd.extV h k) | exact (fun _ _ _ h k => RB.extV h k) | exact (fun _ _ _ h k => E0.ext h k) | exact (fun _ _ _ h k => O0.ext h k) | exact (fun _ _ _ h k => RE.ext h k) | exact (fun _ _ _ h k => RE.extD h k) | exact (fun _ _ _ h _ => h) | exact (fun _ _ _ ⟨n, h1, h2⟩ k => ⟨n, h1, k.st _ _ h2⟩)) ?_ ?_
    · intro a w' hR h1 K hK
      have e1 : _ = _ := h1
      go_simp
      refine (HCX.out w').mono ?_
      rintro e w2 ⟨rfl, he⟩
      exact hK _ _ he rfl
    refine wpY_val rfl rfl (by first | exact runs0 | exact runs1 rfl) Ext.refl rfl ?_; apply Exists.intro; refine ⟨?_, ?_⟩
    · intro a w' hR h1
      have e1 : _ = _ := h1
      have hl0 := hR.cell c0
      have hl1 := hR.cell c1
      have hl2 := hR.cell c2
      have hl3 := hR.cell c3
      go_simp
      rfl
    refine wpY_call (fun v _ => v = .int .i64 ox) rfl rfl (by first | exact runs0 | exact runs1 rfl) rfl (by first | exact mono_eq | exact (fun _ _ _ h k => Rd.ext h k) | exact (fun _ _ _ h k => RB.ext h k) | exact (fun _ _ _ h k => OB.ext h k) | exact (fun _ _ _ h k => RB.extS h k) | exact (fun _ _ _ h k => Rd.ext h (GrownW.ext k)) | exact (fun _ _ _ h k => RP.ext h k) | exact (fun _ _ _ h k => OP.ext h k) | exact (fun _ _ _ h k => Rd.extV h k) | exact (fun _ _ _ h k => RB.extV h k) | exact (fun _ _ _ h k => E0.ext h k) | exact (fun _ _ _ h k => O0.ext h k) | exact (fun _ _ _ h k => RE.ext h k) | exact (fun _ _ _ h k => RE.extD h k) | exact (fun _ _ _ h _ => h) | exact (fun _ _ _ ⟨n, h1, h2⟩ k => ⟨n, h1, k.st _ _ h2⟩)) ?_ ?_
    · intro a w' hR h1 K hK
      have e1 : _ = _ := h1
      go_simp
      refine (HRX.out w').mono ?_
      rintro e w2 ⟨rfl, he⟩
      exact hK _ _ he rfl
    repeat (first | (refine wpY_move0 rfl rfl (by first | exact runs0 | exact runs1 rfl) Ext.refl rfl rfl rfl ?_; apply Exists.intro; refine ⟨?_, ?_⟩; · (go_simp; rfl)) | (refine wpY_move rfl rfl (by first | exact runs0 | exact runs1 rfl) Ext.refl rfl rfl rfl (fun _ _ _ h _ => h) ?_) | (refine wpY_val rfl rfl (by first | exact runs0 | exact runs1 rfl) Ext.refl rfl ?_; apply Exists.intro; refine ⟨?_, ?_⟩; · (intro a w' hR; intro h1; (first | (have e1 : _ = _ := h1) | skip); intro h2; (first | (have e2 : _ = _ := h2) | skip); go_simp; rfl)) | (refine wpY_val rfl rfl (by first | exact runs0 | exact runs1 rfl) Ext.refl rfl ?_; apply Exists.intro; refine ⟨?_, ?_⟩; · (intro a w' hR; intro h1; (first | (have e1 : _ = _ := h1) | skip); go_simp; rfl)) | (refine wpY_val rfl rfl (by first | exact runs0 | exact runs1 rfl) Ext.refl rfl ?_; apply Exists.intro; refine ⟨?_, ?_⟩; · (intro a w' hR; go_simp; rfl)) | (refine wpY_val rfl rfl (by first | exact runs0 | exact runs1 rfl) Ext.refl rfl ?_; apply Exists.intro; refine ⟨?_, ?_⟩; · (intro a w' hR; intro h1; (first | (have e1 : _ = _ := h1) | skip); intro h2; (first | (have e2 : _ = _ := h2) | skip); intro h3; (first | (have e3 : _ = _ := h3) | skip); go_simp; rfl)) | (refine wpY_skip rfl rfl (by first | exact .inl rfl | exact .inr rfl) ?_))
    refine wpY_val rfl rfl (by first | exact runs0 | exact runs1 rfl) Ext.refl rfl ?_; apply Exists.intro; refine ⟨?_, ?_⟩
    · intro a w' hR h1
      have e1 : _ = _ := h1
      have hl0 := hR.cell c0
      have hl1 := hR.cell c1
      have hl2 := hR.cell c2
      have hl3 := hR.cell c3
      go_simp
      rfl
    refine wpY_val rfl rfl (by first | exact runs0 | exact runs1 rfl) Ext.refl rfl ?_; apply Exists.intro; refine ⟨?_, ?_⟩
    · intro a w' hR h1
      have e1 : _ = _ := h1
      have hl0 := hR.cell d0
      have hl1 := hR.cell d1
      have hl2 := hR.cell d2
      have hl3 := hR.cell d3
      go_simp
      rfl
    refine wpY_call (fun v _ => v = .int .i64 cm) rfl rfl (by first | exact runs0 | exact runs1 rfl) rfl (by first | exact mono_eq | exact (fun _ _ _ h k => Rd.ext h k) | exact (fun _ _ _ h k => RB.ext h k) | exact (fun _ _ _ h k => OB.ext h k) | exact (fun _ _ _ h k => RB.extS h k) | exact (fun _ _ _ h k => Rd.ext h (GrownW.ext k)) | exact (fun _ _ _ h k => RP.ext h k) | exact (fun _ _ _ h k => OP.ext h k) | exact (fun _ _ _ h k => Rd.extV h k) | exact (fun _ _ _ h k => RB.extV h k) | exact (fun _ _ _ h k => E0.ext h k) | exact (fun _ _ _ h k => O0.ext h k) | exact (fun _ _ _ h k => RE.ext h k) | exact (fun _ _ _ h k => RE.extD h k) | exact (fun _ _ _ h _ => h) | exact (fun _ _ _ ⟨n, h1, h2⟩ k => ⟨n, h1, k.st _ _ h2⟩)) ?_ ?_
    · intro a w' hR h1 h2 K hK
      have e1 : _ = _ := h1
      have e2 : _ = _ := h2
      go_simp
      refine (HCM.out w').mono ?_
      rintro e w2 ⟨rfl, he⟩
      exact hK _ _ he rfl
    refine wpY_val rfl rfl (by first | exact runs0 | exact runs1 rfl) Ext.refl rfl ?_; apply Exists.intro; refine ⟨?_, ?_⟩
    · intro a w' hR h1
      have e1 : _ = _ := h1
      have hl0 := hR.cell c0
      have hl1 := hR.cell c1
      have hl2 := hR.cell c2
      have hl3 := hR.cell c3
      go_simp
      rfl
    refine wpY_val rfl rfl (by first | exact runs0 | exact runs1 rfl) Ext.refl rfl ?_; apply Exists.intro; refine ⟨?_, ?_⟩
    · intro a w' hR h1
      have e1 : _ = _ := h1
      have hl0 := hR.cell d0
      have hl1 := hR.cell d1
      have hl2 := hR.cell d2
      have hl3 := hR.cell d3
      go_simp
      rfl
    refine wpY_call (fun v _ => v = .int .i64 cm) rfl rfl (by first | exact runs0 | exact runs1 rfl) rfl (by first | exact mono_eq | exact (fun _ _ _ h k => Rd.ext h k) | exact (fun _ _ _ h k => RB.ext h k) | exact (fun _ _ _ h k => OB.ext h k) | exact (fun _ _ _ h k => RB.extS h k) | exact (fun _ _ _ h k => Rd.ext h (GrownW.ext k)) | exact (fun _ _ _ h k => RP.ext h k) | exact (fun _ _ _ h k => OP.ext h k) | exact (fun _ _ _ h k => Rd.extV h k) | exact (fun _ _ _ h k => RB.extV h k) | exact (fun _ _ _ h k => E0.ext h k) | exact (fun _ _ _ h k => O0.ext h k) | exact (fun _ _ _ h k => RE.ext h k) | exact (fun _ _ _ h k => RE.extD h k) | exact (fun _ _ _ h _ => h) | exact (fun _ _ _ ⟨n, h1, h2⟩ k => ⟨n, h1, k.st _ _ h2⟩)) ?_ ?_
    · intro a w' hR h1 h2 K hK
      have e1 : _ = _ := h1
      have e2 : _ = _ := h2
      go_simp
      refine (HRM.out w').mono ?_
      rintro e w2 ⟨rfl, he⟩
      exact hK _ _ he rfl
    repeat (first | (refine wpY_move0 rfl rfl (by first | exact runs0 | exact runs1 rfl) Ext.refl rfl rfl rfl ?_; apply Exists.intro; refine ⟨?_, ?_⟩; · (go_simp; rfl)) | (refine wpY_move rfl rfl (by first | exact runs0 | exact runs1 rfl) Ext.refl rfl rfl rfl (fun _ _ _ h _ => h) ?_) | (refine wpY_val rfl rfl (by first | exact runs0 | exact runs1 rfl) Ext.refl rfl ?_; apply Exists.intro; refine ⟨?_, ?_⟩; · (intro a w' hR; intro h1; (first | (have e1 : _ = _ := h1) | skip); intro h2; (first | (have e2 : _ = _ := h2) | skip); go_simp; rfl)) | (refine wpY_val rfl rfl (by first | exact runs0 | exact runs1 rfl) Ext.refl rfl ?_; apply Exists.intro; refine ⟨?_, ?_⟩; · (intro a w' hR; intro h1; (first | (have e1 : _ = _ := h1) | skip); go_simp; rfl)) | (refine wpY_val rfl rfl (by first | exact runs0 | exact runs1 rfl) Ext.refl rfl ?_; apply Exists.intro; refine ⟨?_, ?_⟩; · (intro a w' hR; go_simp; rfl)) | (refine wpY_val rfl rfl (by first | exact runs0 | exact runs1 rfl) Ext.refl rfl ?_; apply Exists.intro; refine ⟨?_, ?_⟩; · (intro a w' hR; intro h1; (first | (have e1 : _ = _ := h1) | skip); intro h2; (first | (have e2 : _ = _ := h2) | skip); intro h3; (first | (have e3 : _ = _ := h3) | skip); go_simp; rfl)) | (refine wpY_skip rfl rfl (by first | exact .inl rfl | exact .inr rfl) ?_))
    refine wpY_call (fun v _ => v = .bool qa) rfl rfl (by first | exact runs0 | exact runs1 rfl) rfl (by first | exact mono_eq | exact (fun _ _ _ h k => Rd.ext h k) | exact (fun _ _ _ h k => RB.ext h k) | exact (fun _ _ _ h k => OB.ext h k) | exact (fun _ _ _ h k => RB.extS h k) | exact (fun _ _ _ h k => Rd.ext h (GrownW.ext k)) | exact (fun _ _ _ h k => RP.ext h k) | exact (fun _ _ _ h k => OP.ext h k) | exact (fun _ _ _ h k => Rd.extV h k) | exact (fun _ _ _ h k => RB.extV h k) | exact (fun _ _ _ h k => E0.ext h k) | exact (fun _ _ _ h k => O0.ext h k) | exact (fun _ _ _ h k => RE.ext h k) | exact (fun _ _ _ h k => RE.extD h k) | exact (fun _ _ _ h _ => h) | exact (fun _ _ _ ⟨n, h1, h2⟩ k => ⟨n, h1, k.st _ _ h2⟩)) ?_ ?_
    · intro a w' hR h1 K hK
      have e1 : _ = _ := h1
      go_simp
      refine (HSB.out _ w' (HO4.out.ext hR)).mono ?_
      rintro e w2 ⟨rfl, he⟩
      exact hK _ _ he rfl
    repeat (first | (refine wpY_move0 rfl rfl (by first | exact runs0 | exact runs1 rfl) Ext.refl rfl rfl rfl ?_; apply Exists.intro; refine ⟨?_, ?_⟩; · (go_simp; rfl)) | (refine wpY_move rfl rfl (by first | exact runs0 | exact runs1 rfl) Ext.refl rfl rfl rfl (fun _ _ _ h _ => h) ?_) | (refine wpY_val rfl rfl (by first | exact runs0 | exact runs1 rfl) Ext.refl rfl ?_; apply Exists.intro; refine ⟨?_, ?_⟩; · (intro a w' hR; intro h1; (first | (have e1 : _ = _ := h1) | skip); intro h2; (first | (have e2 : _ = _ := h2) | skip); go_simp; rfl)) | (refine wpY_val rfl rfl (by first | exact runs0 | exact runs1 rfl) Ext.refl rfl ?_; apply Exists.intro; refine ⟨?_, ?_⟩; · (intro a w' hR; intro h1; (first | (have e1 : _ = _ := h1) | skip); go_simp; rfl)) | (refine wpY_val rfl rfl (by first | exact runs0 | exact runs1 rfl) Ext.refl rfl ?_; apply Exists.intro; refine ⟨?_, ?_⟩; · (intro a w' hR; go_simp; rfl)) | (refine wpY_val rfl rfl (by first | exact runs0 | exact runs1 rfl) Ext.refl rfl ?_; apply Exists.intro; refine ⟨?_, ?_⟩; · (intro a w' hR; intro h1; (first | (have e1 : _ = _ := h1) | skip); intro h2; (first | (have e2 : _ = _ := h2) | skip); intro h3; (first | (have e3 : _ = _ := h3) | skip); go_simp; rfl)) | (refine wpY_skip rfl rfl (by first | exact .inl rfl | exact .inr rfl) ?_))
    refine wpY_call (fun v _ => v = .bool qa) rfl rfl (by first | exact runs0 | exact runs1 rfl) rfl (by first | exact mono_eq | exact (fun _ _ _ h k => Rd.ext h k) | exact (fun _ _ _ h k => RB.ext h k) | exact (fun _ _ _ h k => OB.ext h k) | exact (fun _ _ _ h k => RB.extS h k) | exact (fun _ _ _ h k => Rd.ext h (GrownW.ext k)) | exact (fun _ _ _ h k => RP.ext h k) | exact (fun _ _ _ h k => OP.ext h k) | exact (fun _ _ _ h k => Rd.extV h k) | exact (fun _ _ _ h k => RB.extV h k) | exact (fun _ _ _ h k => E0.ext h k) | exact (fun _ _ _ h k => O0.ext h k) | exact (fun _ _ _ h k => RE.ext h k) | exact (fun _ _ _ h k => RE.extD h k) | exact (fun _ _ _ h _ => h) | exact (fun _ _ _ ⟨n, h1, h2⟩ k => ⟨n, h1, k.st _ _ h2⟩)) ?_ ?_
    · intro a w' hR h1 K hK
      have e1 : _ = _ := h1
      go_simp
      refine (HRB.out w' (HV4.out.ext hR)).mono ?_
      rintro e w2 ⟨rfl, he⟩
      exact hK _ _ he rfl
    repeat (first | (refine wpY_move0 rfl rfl (by first | exact runs0 | exact runs1 rfl) Ext.refl rfl rfl rfl ?_; apply Exists.intro; refine ⟨?_, ?_⟩; · (go_simp; rfl)) | (refine wpY_move rfl rfl (by first | exact runs0 | exact runs1 rfl) Ext.refl rfl rfl rfl (fun _ _ _ h _ => h) ?_) | (refine wpY_val rfl rfl (by first | exact runs0 | exact runs1 rfl) Ext.refl rfl ?_; apply Exists.intro; refine ⟨?_, ?_⟩; · (intro a w' hR; intro h1; (first | (have e1 : _ = _ := h1) | skip); intro h2; (first | (have e2 : _ = _ := h2) | skip); go_simp; rfl)) | (refine wpY_val rfl rfl (by first | exact runs0 | exact runs1 rfl) Ext.refl rfl ?_; apply Exists.intro; refine ⟨?_, ?_⟩; · (intro a w' hR; intro h1; (first | (have e1 : _ = _ := h1) | skip); go_simp; rfl)) | (refine wpY_val rfl rfl (by first | exact runs0 | exact runs1 rfl) Ext.refl rfl ?_; apply Exists.intro; refine ⟨?_, ?_⟩; · (intro a w' hR; go_simp; rfl)) | (refine wpY_val rfl rfl (by first | exact runs0 | exact runs1 rfl) Ext.refl rfl ?_; apply Exists.intro; refine ⟨?_, ?_⟩; · (intro a w' hR; intro h1; (first | (have e1 : _ = _ := h1) | skip); intro h2; (first | (have e2 : _ = _ := h2) | skip); intro h3; (first | (have e3 : _ = _ := h3) | skip); go_simp; rfl)) | (refine wpY_skip rfl rfl (by first | exact .inl rfl | exact .inr rfl) ?_))
    refine wpY_call (fun v _ => v = .bool true) rfl rfl (by first | exact runs0 | exact runs1 rfl) rfl (by first | exact mono_eq | exact (fun _ _ _ h k => Rd.ext h k) | exact (fun _ _ _ h k => RB.ext h k) | exact (fun _ _ _ h k => OB.ext h k) | exact (fun _ _ _ h k => RB.extS h k) | exact (fun _ _ _ h k => Rd.ext h (GrownW.ext k)) | exact (fun _ _ _ h k => RP.ext h k) | exact (fun _ _ _ h k => OP.ext h k) | exact (fun _ _ _ h k => Rd.extV h k) | exact (fun _ _ _ h k => RB.extV h k) | exact (fun _ _ _ h k => E0.ext h k) | exact (fun _ _ _ h k => O0.ext h k) | exact (fun _ _ _ h k => RE.ext h k) | exact (fun _ _ _ h k => RE.extD h k) | exact (fun _ _ _ h _ => h) | exact (fun _ _ _ ⟨n, h1, h2⟩ k => ⟨n, h1, k.st _ _ h2⟩)) ?_ ?_
    · intro a w' hR h1 h2 K hK
      have e1 : _ = _ := h1
      have e2 : _ = _ := h2
      go_simp
      refine (sameE_is _ _ _ w' (HO4.out.ext hR) (HV4.out.ext hR)).mono ?_
      rintro e w2 ⟨rfl, he⟩
      exact hK _ _ he rfl
    repeat (first | (refine wpY_move0 rfl rfl (by first | exact runs0 | exact runs1 rfl) Ext.refl rfl rfl rfl ?_; apply Exists.intro; refine ⟨?_, ?_⟩; · (go_simp; rfl)) | (refine wpY_move rfl rfl (by first | exact runs0 | exact runs1 rfl) Ext.refl rfl rfl rfl (fun _ _ _ h _ => h) ?_) | (refine wpY_val rfl rfl (by first | exact runs0 | exact runs1 rfl) Ext.refl rfl ?_; apply Exists.intro; refine ⟨?_, ?_⟩; · (intro a w' hR; intro h1; (first | (have e1 : _ = _ := h1) | skip); intro h2; (first | (have e2 : _ = _ := h2) | skip); go_simp; rfl)) | (refine wpY_val rfl rfl (by first | exact runs0 | exact runs1 rfl) Ext.refl rfl ?_; apply Exists.intro; refine ⟨?_, ?_⟩; · (intro a w' hR; intro h1; (first | (have e1 : _ = _ := h1) | skip); go_simp; rfl)) | (refine wpY_val rfl rfl (by first | exact runs0 | exact runs1 rfl) Ext.refl rfl ?_; apply Exists.intro; refine ⟨?_, ?_⟩; · (intro a w' hR; go_simp; rfl)) | (refine wpY_val rfl rfl (by first | exact runs0 | exact runs1 rfl) Ext.refl rfl ?_; apply Exists.intro; refine ⟨?_, ?_⟩; · (intro a w' hR; intro h1; (first | (have e1 : _ = _ := h1) | skip); intro h2; (first | (have e2 : _ = _ := h2) | skip); intro h3; (first | (have e3 : _ = _ := h3) | skip); go_simp; rfl)) | (refine wpY_skip rfl rfl (by first | exact .inl rfl | exact .inr rfl) ?_))
    refine wpY_done ?_
    intro w7 hx7 hS
    iterate 36 (rintro _ rfl)
    dsimp only [FinV]
    go_simp
    have hx7 : Ext w4 w7 := hx7
    have HB7 := Lib.hid (HB4.out.ext hx7)
    have HX7 := Lib.hid (HX4.out.trans hx7)
    have HS7 := Lib.hid (HS4.out.ext hx7)
    clear c0 c1 c2 c3 d0 d1 d2 d3 hx7 hS HB4 HX4 HO4 HS4 HV4 HM HSO HSB HRB HCX HCM HRM
    obtain ⟨⟨c0, c1, c2, c3⟩, ⟨d0, d1, d2, d3⟩⟩ := HB7.out
    by_cases hoz : ox = 0
    · have HPU := Lib.hid (fun w => HPT.out w hoz)
      have hsz := HS1.out hoz
      subst hoz
      subst hsz
      clear HS0 HS1
      go_wp2_with fail
      refine (HRX.out _).mono ?_
      rintro e w8 ⟨rfl, he8⟩
      have HI8 := Lib.hid (HB7.out.ext he8)
      have HX8 := Lib.hid (HX7.out.trans he8)
      have HS8 := Lib.hid (HS7.out.ext he8)
      clear c0 c1 c2 c3 d0 d1 d2 d3 he8
      obtain ⟨⟨c0, c1, c2, c3⟩, -⟩ := HI8.out
      go_wp2_with fail
      refine (HPU.out _).mono ?_
      rintro e w9 ⟨pb, rfl, hpb, he9⟩
      obtain ⟨APB, cPB, rfl⟩ := hpb.form
      have HI9 := Lib.hid (HI8.out.ext he9)
      have HX9 := Lib.hid (HX8.out.trans he9)
      have HS9 := Lib.hid (HS8.out.ext he9)
      clear c0 c1 c2 c3 he9 hpb
      obtain ⟨⟨c0, c1, c2, c3⟩, -⟩ := HI9.out
      have hzz : ((eb.length : Int) != (eb.length : Int)) = false := by simp
      go_wp2_with fail
      refine (HSZ.out _).mono ?_
      rintro e w10 ⟨rfl, he10⟩
      have HX10 := Lib.hid (HX9.out.trans he10)
      have HS10 := Lib.hid (HS9.out.ext he10)
      clear c0 c1 c2 c3 he10
      by_cases hm0 : me = 0
      · subst hm0
        go_wp2_with fail
        refine (HRS.out _ (HV.out.ext HX10.out)).mono ?_
        rintro e w11 ⟨t, rfl, ht, he11⟩
        have HT11 := Lib.hid ht.re
        have HX11 := Lib.hid (HX10.out.trans he11)
        have HS11 := Lib.hid (HS10.out.ext he11)
        clear ht he11
        go_wp2_with fail
        refine (sameE_is _ _ _ _ HS11.out HT11.out).mono ?_
        rintro e w12 ⟨rfl, he12⟩
        go_wp2
        go_ret
        exact ⟨rfl, (HX.out.trans HX11.out).trans he12⟩
      · have hm2 : (me != 0) = true := by simpa using hm0
        have HS10 := Lib.hid (show RE w10 sv [] from by have h := HS10.out; rw [if_neg hm0] at h; exact h)
        obtain ⟨AS, cS, rfl⟩ : ∃ A c, sv = .slice A 0 c := HS10.out.form
        clear hm0
        go_wp2
        go_ret
        exact ⟨rfl, HX.out.trans HX10.out⟩
    · have h0z : (ox == 0) = false := by rw [beq_eq_false_iff_ne]; exact hoz
      have hsz := HS0.out hoz
      subst hsz
      clear HS0 HS1 HPT hoz
      go_wp2_with fail
      refine (HRX.out _).mono ?_
      rintro e w8 ⟨rfl, he8⟩
      have HI8 := Lib.hid (HB7.out.ext he8)
      have HX8 := Lib.hid (HX7.out.trans he8)
      have HS8 := Lib.hid (HS7.out.ext he8)
      clear c0 c1 c2 c3 d0 d1 d2 d3 he8
      obtain ⟨⟨c0, c1, c2, c3⟩, -⟩ := HI8.out
      have HX9 := HX8
      have HS9 := HS8
      go_wp2_with fail
      refine (HSZ.out _).mono ?_
      rintro e w10 ⟨rfl, he10⟩
      have HX10 := Lib.hid (HX9.out.trans he10)
      have HS10 := Lib.hid (HS9.out.ext he10)
      clear c0 c1 c2 c3 he10
      by_cases hm0 : me = 0
      · subst hm0
        go_wp2_with fail
        refine (HRS.out _ (HV.out.ext HX10.out)).mono ?_
        rintro e w11 ⟨t, rfl, ht, he11⟩
        have HT11 := Lib.hid ht.re
        have HX11 := Lib.hid (HX10.out.trans he11)
        have HS11 := Lib.hid (HS10.out.ext he11)
        clear ht he11
        go_wp2_with fail
        refine (sameE_is _ _ _ _ HS11.out HT11.out).mono ?_
        rintro e w12 ⟨rfl, he12⟩
        go_wp2
        go_ret
        exact ⟨rfl, (HX.out.trans HX11.out).trans he12⟩
      · have hm2 : (me != 0) = true := by simpa using hm0
        have HS10 := Lib.hid (show RE w10 sv [] from by have h := HS10.out; rw [if_neg hm0] at h; exact h)
        obtain ⟨AS, cS, rfl⟩ : ∃ A c, sv = .slice A 0 c := HS10.out.form
        clear hm0
        go_wp2
        go_ret
        exact ⟨rfl, HX.out.trans HX10.out⟩
theorem entrySorts_law (w : World) (v : Value) (l : List Ent.E) (hv : RE w v l) (u : Value) (x : Ent.E) (hu : u = entV x) (z : Value) (y : Ent.E) (hz : z = entV y) :
    Calls Try.prog 3 #[v, u, z] w fun e w' => e = .returned (.bool true) ∧ Ext w w' := by
  subst hu hz; exact entrySorts_row v l x y w hv
end Go.Proofs.Ytacpomonidmjaaa
