/-
  ScrLawA, packed: what the claim needs of them.
-/
import Derived.Test.YtpmpjjhchkoboaaGreatDoorPb41
import Derived.Test.YtpmpjjhchkoboaaGreatDoorPb42
import Derived.Test.YtpmpjjhchkoboaaGreatDoorPb43
import Derived.Test.YtpmpjjhchkoboaaGreatDoorPb27
import Derived.Test.YtpmpjjhchkoboaaGreatDoorPb33
set_option linter.unusedSimpArgs false
set_option linter.unusedVariables false
set_option maxRecDepth 100000
namespace Go.Proofs.YtpmpjjhchkoboaaGreatDoor
open Go.RowKit Go.Ox Go.Ox.Gr Go.Ox.Sc
theorem eq26 {α : Type} (x y : α) : ∃ b : Bool, (b = true ↔ x = y) := by
  classical exact ⟨decide (x = y), decide_eq_true_iff⟩
theorem bs_eq26 (l : List UInt8) : ((⟨l.toArray⟩ : ByteArray) == ⟨l.toArray⟩) = true := by first | exact beq_self_eq_true _ | (rw [str_eq]; simp) | (show decide (_ = _) = true; exact decide_eq_true rfl)
theorem EqP.is26 {α : Type} {x y : α} {b : Bool} (hb : b = true ↔ x = y) {w w' : World} {e : Ending} (h : EqP x y w e w') : e = .returned (.bool b) ∧ Ext w w' := by
  obtain ⟨c, rfl, hc, he⟩ := h
  obtain rfl : c = b := by rw [Bool.eq_iff_iff, hc, hb]
  exact ⟨rfl, he⟩
attribute [local irreducible] RE OE RB OB NodesR EpR InsR ActsR RP
set_option maxHeartbeats 8000000 in
theorem codes_large {b1 b2 : Bool} (hb : (b1 || b2) = true) (w : World) (x0 x1 x2 x3 x4 : Int) (xA xB xC : Option Addr) (xn xc xm xd xk xe : Nat) (y0 y1 y2 y3 y4 : Int) (yA yB yC : Option Addr) (yn yc ym yd yk ye : Nat) (HL1 : ∀ W, Ext w W → Calls Tryz.prog 6 #[.agg #[.int .i64 x0, .int .i64 x1, .int .i64 x2, .int .i64 x3, .slice xA xn xc, .int .i64 x4, .slice xB xm xd, .slice xC xk xe]] W fun e w' => e = .returned (.bool b1) ∧ Ext W w') (HL2 : ∀ W, Ext w W → Calls Tryz.prog 6 #[.agg #[.int .i64 y0, .int .i64 y1, .int .i64 y2, .int .i64 y3, .slice yA yn yc, .int .i64 y4, .slice yB ym yd, .slice yC yk ye]] W fun e w' => e = .returned (.bool b2) ∧ Ext W w') (HLV : ∀ W, Ext w W → Calls Tryz.prog 7 #[] W fun e w' => e = .returned (.bool true) ∧ Ext W w') : Calls Tryz.prog 3 #[.agg #[.int .i64 x0, .int .i64 x1, .int .i64 x2, .int .i64 x3, .slice xA xn xc, .int .i64 x4, .slice xB xm xd, .slice xC xk xe], .agg #[.int .i64 y0, .int .i64 y1, .int .i64 y2, .int .i64 y3, .slice yA yn yc, .int .i64 y4, .slice yB ym yd, .slice yC yk ye]] w fun e w' => e = .returned (.bool true) ∧ Ext w w' := by
  have HL1' := Lib.hid HL1
  have HL2' := Lib.hid HL2
  have HLV' := Lib.hid HLV
  have HX := Lib.hid (((Ext.refl w).alloc (.cells #[.int .i64 x0, .int .i64 x1, .int .i64 x2, .int .i64 x3, .slice xA xn xc, .int .i64 x4, .slice xB xm xd, .slice xC xk xe] 30)).alloc (.cells #[.int .i64 y0, .int .i64 y1, .int .i64 y2, .int .i64 y3, .slice yA yn yc, .int .i64 y4, .slice yB ym yd, .slice yC yk ye] 30))
  have HB := Lib.hid ((Bx8.new w 30 (.int .i64 x0) (.int .i64 x1) (.int .i64 x2) (.int .i64 x3) (.slice xA xn xc) (.int .i64 x4) (.slice xB xm xd) (.slice xC xk xe)).ext ((Ext.refl _).alloc (.cells #[.int .i64 y0, .int .i64 y1, .int .i64 y2, .int .i64 y3, .slice yA yn yc, .int .i64 y4, .slice yB ym yd, .slice yC yk ye] 30)))
  have HC := Lib.hid (Bx8.new (w.alloc (.cells #[.int .i64 x0, .int .i64 x1, .int .i64 x2, .int .i64 x3, .slice xA xn xc, .int .i64 x4, .slice xB xm xd, .slice xC xk xe] 30)) 30 (.int .i64 y0) (.int .i64 y1) (.int .i64 y2) (.int .i64 y3) (.slice yA yn yc) (.int .i64 y4) (.slice yB ym yd) (.slice yC yk ye))
  have hsz : (w.alloc (.cells #[.int .i64 x0, .int .i64 x1, .int .i64 x2, .int .i64 x3, .slice xA xn xc, .int .i64 x4, .slice xB xm xd, .slice xC xk xe] 30)).heap.size = w.heap.size + 1 := by simp
  rw [hsz] at HC
  clear hsz HL1 HL2 HLV
  go_enter Tryz.func3, Tryz.ntmps3
  go_upto_region 1 with fail
  generalize (w.alloc (.cells #[.int .i64 x0, .int .i64 x1, .int .i64 x2, .int .i64 x3, .slice xA xn xc, .int .i64 x4, .slice xB xm xd, .slice xC xk xe] 30)).alloc (.cells #[.int .i64 y0, .int .i64 y1, .int .i64 y2, .int .i64 y3, .slice yA yn yc, .int .i64 y4, .slice yB ym yd, .slice yC yk ye] 30) = w0 at *
  generalize w.heap.size + 1 = q at *
  generalize w.heap.size = p at *
  obtain ⟨c0, c1, c2, c3, c4, c5, c6, c7⟩ := HB.out.at_
  obtain ⟨d0, d1, d2, d3, d4, d5, d6, d7⟩ := HC.out.at_
  go_wp2_with fail
  refine (HL1'.out _ HX.out).mono ?_
  rintro e w1 ⟨rfl, he⟩
  have HX1 := Lib.hid (HX.out.trans he)
  have HE1 := Lib.hid he
  clear he
  clear c0 c1 c2 c3 c4 c5 c6 c7 d0 d1 d2 d3 d4 d5 d6 d7
  obtain ⟨c0, c1, c2, c3, c4, c5, c6, c7⟩ := (HB.out.ext HE1.out).at_
  obtain ⟨d0, d1, d2, d3, d4, d5, d6, d7⟩ := (HC.out.ext HE1.out).at_
  cases b1 with
  | true =>
    go_wp2_with fail
    refine (HLV'.out _ HX1.out).mono ?_
    rintro e w2 ⟨rfl, he⟩
    have HX2 := Lib.hid (HX1.out.trans he)
    clear he
    go_wp2
    go_ret
    exact ⟨rfl, HX2.out⟩
  | false =>
    obtain rfl : b2 = true := by simpa using hb
    go_wp2_with fail
    refine (HL2'.out _ HX1.out).mono ?_
    rintro e w2 ⟨rfl, he⟩
    have HX2 := Lib.hid (HX1.out.trans he)
    clear he
    go_wp2_with fail
    refine (HLV'.out _ HX2.out).mono ?_
    rintro e w3 ⟨rfl, he⟩
    have HX3 := Lib.hid (HX2.out.trans he)
    clear he
    go_wp2
    go_ret
    exact ⟨rfl, HX3.out⟩
set_option maxHeartbeats 8000000 in
theorem codes_bad {b1 b2 : Bool} {bb : Bool} (hb1 : b1 = false) (hb2 : b2 = false) (w : World) (x0 x1 x2 x3 x4 : Int) (xA xB xC : Option Addr) (xn xc xm xd xk xe : Nat) (y0 y1 y2 y3 y4 : Int) (yA yB yC : Option Addr) (yn yc ym yd yk ye : Nat) (HL1 : ∀ W, Ext w W → Calls Tryz.prog 6 #[.agg #[.int .i64 x0, .int .i64 x1, .int .i64 x2, .int .i64 x3, .slice xA xn xc, .int .i64 x4, .slice xB xm xd, .slice xC xk xe]] W fun e w' => e = .returned (.bool b1) ∧ Ext W w') (HL2 : ∀ W, Ext w W → Calls Tryz.prog 6 #[.agg #[.int .i64 y0, .int .i64 y1, .int .i64 y2, .int .i64 y3, .slice yA yn yc, .int .i64 y4, .slice yB ym yd, .slice yC yk ye]] W fun e w' => e = .returned (.bool b2) ∧ Ext W w') (HLV : ∀ W, Ext w W → Calls Tryz.prog 7 #[] W fun e w' => e = .returned (.bool true) ∧ Ext W w') (HSA : ∀ W, Ext w W → Calls Tryz.prog 9 #[.agg #[.int .i64 x0, .int .i64 x1, .int .i64 x2, .int .i64 x3, .slice xA xn xc, .int .i64 x4, .slice xB xm xd, .slice xC xk xe], .agg #[.int .i64 y0, .int .i64 y1, .int .i64 y2, .int .i64 y3, .slice yA yn yc, .int .i64 y4, .slice yB ym yd, .slice yC yk ye]] W fun e w' => e = .returned (.bool bb) ∧ Ext W w') (HRS : ∀ W, Ext w W → Calls Tryz.prog 10 #[.agg #[.int .i64 x0, .int .i64 x1, .int .i64 x2, .int .i64 x3, .slice xA xn xc, .int .i64 x4, .slice xB xm xd, .slice xC xk xe], .agg #[.int .i64 y0, .int .i64 y1, .int .i64 y2, .int .i64 y3, .slice yA yn yc, .int .i64 y4, .slice yB ym yd, .slice yC yk ye]] W fun e w' => e = .returned (.bool bb) ∧ Ext W w') (HEN : ∀ W, Ext w W → Calls Tryz.prog 8 #[.agg #[.int .i64 x0, .int .i64 x1, .int .i64 x2, .int .i64 x3, .slice xA xn xc, .int .i64 x4, .slice xB xm xd, .slice xC xk xe]] W fun e w' => e = .returned (.tuple #[.slice none 0 0, .int .i64 260]) ∧ Ext W w') (HCK : ∀ W, Ext w W → Calls Tryz.prog 11 #[.agg #[.int .i64 x0, .int .i64 x1, .int .i64 x2, .int .i64 x3, .slice xA xn xc, .int .i64 x4, .slice xB xm xd, .slice xC xk xe]] W fun e w' => e = .returned (.bool false) ∧ Ext W w') (HCS : ∀ W, Ext w W → Calls Tryz.prog 12 #[.agg #[.int .i64 x0, .int .i64 x1, .int .i64 x2, .int .i64 x3, .slice xA xn xc, .int .i64 x4, .slice xB xm xd, .slice xC xk xe]] W fun e w' => e = .returned (.int .i64 260) ∧ Ext W w') : Calls Tryz.prog 3 #[.agg #[.int .i64 x0, .int .i64 x1, .int .i64 x2, .int .i64 x3, .slice xA xn xc, .int .i64 x4, .slice xB xm xd, .slice xC xk xe], .agg #[.int .i64 y0, .int .i64 y1, .int .i64 y2, .int .i64 y3, .slice yA yn yc, .int .i64 y4, .slice yB ym yd, .slice yC yk ye]] w fun e w' => e = .returned (.bool true) ∧ Ext w w' := by
  subst hb1 hb2
  have HL1' := Lib.hid HL1
  have HL2' := Lib.hid HL2
  have HLV' := Lib.hid HLV
  have HSA' := Lib.hid HSA
  have HRS' := Lib.hid HRS
  have HEN' := Lib.hid HEN
  have HCK' := Lib.hid HCK
  have HCS' := Lib.hid HCS
  have HX := Lib.hid (((Ext.refl w).alloc (.cells #[.int .i64 x0, .int .i64 x1, .int .i64 x2, .int .i64 x3, .slice xA xn xc, .int .i64 x4, .slice xB xm xd, .slice xC xk xe] 30)).alloc (.cells #[.int .i64 y0, .int .i64 y1, .int .i64 y2, .int .i64 y3, .slice yA yn yc, .int .i64 y4, .slice yB ym yd, .slice yC yk ye] 30))
  have HB := Lib.hid ((Bx8.new w 30 (.int .i64 x0) (.int .i64 x1) (.int .i64 x2) (.int .i64 x3) (.slice xA xn xc) (.int .i64 x4) (.slice xB xm xd) (.slice xC xk xe)).ext ((Ext.refl _).alloc (.cells #[.int .i64 y0, .int .i64 y1, .int .i64 y2, .int .i64 y3, .slice yA yn yc, .int .i64 y4, .slice yB ym yd, .slice yC yk ye] 30)))
  have HC := Lib.hid (Bx8.new (w.alloc (.cells #[.int .i64 x0, .int .i64 x1, .int .i64 x2, .int .i64 x3, .slice xA xn xc, .int .i64 x4, .slice xB xm xd, .slice xC xk xe] 30)) 30 (.int .i64 y0) (.int .i64 y1) (.int .i64 y2) (.int .i64 y3) (.slice yA yn yc) (.int .i64 y4) (.slice yB ym yd) (.slice yC yk ye))
  have hsz : (w.alloc (.cells #[.int .i64 x0, .int .i64 x1, .int .i64 x2, .int .i64 x3, .slice xA xn xc, .int .i64 x4, .slice xB xm xd, .slice xC xk xe] 30)).heap.size = w.heap.size + 1 := by simp
  rw [hsz] at HC
  clear hsz HL1 HL2 HLV HSA HRS HEN HCK HCS
  go_enter Tryz.func3, Tryz.ntmps3
  go_upto_region 1 with fail
  generalize (w.alloc (.cells #[.int .i64 x0, .int .i64 x1, .int .i64 x2, .int .i64 x3, .slice xA xn xc, .int .i64 x4, .slice xB xm xd, .slice xC xk xe] 30)).alloc (.cells #[.int .i64 y0, .int .i64 y1, .int .i64 y2, .int .i64 y3, .slice yA yn yc, .int .i64 y4, .slice yB ym yd, .slice yC yk ye] 30) = w0 at *
  generalize w.heap.size + 1 = q at *
  generalize w.heap.size = p at *
  obtain ⟨c0, c1, c2, c3, c4, c5, c6, c7⟩ := HB.out.at_
  obtain ⟨d0, d1, d2, d3, d4, d5, d6, d7⟩ := HC.out.at_
  go_wp2_with fail
  refine (HL1'.out _ HX.out).mono ?_
  rintro e w1 ⟨rfl, he⟩
  have HX1 := Lib.hid (HX.out.trans he)
  have HE1 := Lib.hid he
  clear he
  clear c0 c1 c2 c3 c4 c5 c6 c7 d0 d1 d2 d3 d4 d5 d6 d7
  obtain ⟨c0, c1, c2, c3, c4, c5, c6, c7⟩ := (HB.out.ext HE1.out).at_
  obtain ⟨d0, d1, d2, d3, d4, d5, d6, d7⟩ := (HC.out.ext HE1.out).at_
  go_wp2_with fail
  refine (HL2'.out _ HX1.out).mono ?_
  rintro e w2 ⟨rfl, he⟩
  have HX2 := Lib.hid (HX1.out.trans he)
  have HE2 := Lib.hid (HE1.out.trans he)
  clear he
  clear c0 c1 c2 c3 c4 c5 c6 c7 d0 d1 d2 d3 d4 d5 d6 d7
  obtain ⟨c0, c1, c2, c3, c4, c5, c6, c7⟩ := (HB.out.ext HE2.out).at_
  obtain ⟨d0, d1, d2, d3, d4, d5, d6, d7⟩ := (HC.out.ext HE2.out).at_
  go_wp2_with fail
  refine (HEN'.out _ HX2.out).mono ?_
  rintro e w3 ⟨rfl, he⟩
  have HX3 := Lib.hid (HX2.out.trans he)
  have HE3 := Lib.hid (HE2.out.trans he)
  clear he
  clear c0 c1 c2 c3 c4 c5 c6 c7 d0 d1 d2 d3 d4 d5 d6 d7
  obtain ⟨c0, c1, c2, c3, c4, c5, c6, c7⟩ := (HB.out.ext HE3.out).at_
  obtain ⟨d0, d1, d2, d3, d4, d5, d6, d7⟩ := (HC.out.ext HE3.out).at_
  go_upto_region 4 with fail
  have HBX := Lib.hid (show (bb != bb) = false by simp)
  have hbb := HBX.out
  go_wp2
  refine wp_regionY [] [] Ext Ext (fun _ => True) (by kernel_rfl) (by rfl) (by rfl) (by kernel_rfl) (by kernel_rfl) (by kernel_rfl) (fun _ _ _ x y => x.trans y) Ext.refl (fun _ _ x => x) (Ext.refl _).drew (fun _ _ x _ => x) trivial ?_
  refine wpY_call (fun v _ => v = .bool true) rfl rfl (by first | exact runs0 | exact runs1 rfl) rfl (by exact mono_eq) ?_ ?_
  · intro a w' hR  K hK
    go_simp
    refine (HLV'.out w' (HX3.out.trans hR)).mono ?_
    rintro e w2 ⟨rfl, he⟩
    exact hK _ _ he rfl
  repeat (first | (refine wpY_move0 rfl rfl (by first | exact runs0 | exact runs1 rfl) Ext.refl rfl rfl rfl ?_; apply Exists.intro; refine ⟨?_, ?_⟩; · (go_simp; rfl)) | (refine wpY_move rfl rfl (by first | exact runs0 | exact runs1 rfl) Ext.refl rfl rfl rfl (fun _ _ _ h _ => h) ?_) | (refine wpY_val rfl rfl (by first | exact runs0 | exact runs1 rfl) Ext.refl rfl ?_; apply Exists.intro; refine ⟨?_, ?_⟩; · (intro a w' hR; (try (intro h1; try have e1 : _ = _ := h1)); (try (intro h2; try have e2 : _ = _ := h2)); (try (intro h3; try have e3 : _ = _ := h3)); go_simp; rfl)) | (refine wpY_skip rfl rfl (by first | exact .inl rfl | exact .inr rfl) ?_))
  refine wpY_val rfl rfl (by first | exact runs0 | exact runs1 rfl) Ext.refl rfl ?_; apply Exists.intro; refine ⟨?_, ?_⟩
  · intro a w' hR h1
    have e1 : _ = _ := h1
    have hl0 := hR.cell c0
    have hl1 := hR.cell c1
    have hl2 := hR.cell c2
    have hl3 := hR.cell c3
    have hl4 := hR.cell c4
    have hl5 := hR.cell c5
    have hl6 := hR.cell c6
    have hl7 := hR.cell c7
    go_simp
    rfl
  refine wpY_val rfl rfl (by first | exact runs0 | exact runs1 rfl) Ext.refl rfl ?_; apply Exists.intro; refine ⟨?_, ?_⟩
  · intro a w' hR h1
    have e1 : _ = _ := h1
    have hl0 := hR.cell d0
    have hl1 := hR.cell d1
    have hl2 := hR.cell d2
    have hl3 := hR.cell d3
    have hl4 := hR.cell d4
    have hl5 := hR.cell d5
    have hl6 := hR.cell d6
    have hl7 := hR.cell d7
    go_simp
    rfl
  refine wpY_call (fun v _ => v = .bool bb) rfl rfl (by first | exact runs0 | exact runs1 rfl) rfl (by exact mono_eq) ?_ ?_
  · intro a w' hR h1 h2 K hK
    have e1 : _ = _ := h1
    have e2 : _ = _ := h2
    go_simp
    refine (HSA'.out w' (HX3.out.trans hR)).mono ?_
    rintro e w2 ⟨rfl, he⟩
    exact hK _ _ he rfl
  refine wpY_val rfl rfl (by first | exact runs0 | exact runs1 rfl) Ext.refl rfl ?_; apply Exists.intro; refine ⟨?_, ?_⟩
  · intro a w' hR h1
    have e1 : _ = _ := h1
    have hl0 := hR.cell c0
    have hl1 := hR.cell c1
    have hl2 := hR.cell c2
    have hl3 := hR.cell c3
    have hl4 := hR.cell c4
    have hl5 := hR.cell c5
    have hl6 := hR.cell c6
    have hl7 := hR.cell c7
    go_simp
    rfl
  refine wpY_val rfl rfl (by first | exact runs0 | exact runs1 rfl) Ext.refl rfl ?_; apply Exists.intro; refine ⟨?_, ?_⟩
  · intro a w' hR h1
    have e1 : _ = _ := h1
    have hl0 := hR.cell d0
    have hl1 := hR.cell d1
    have hl2 := hR.cell d2
    have hl3 := hR.cell d3
    have hl4 := hR.cell d4
    have hl5 := hR.cell d5
    have hl6 := hR.cell d6
    have hl7 := hR.cell d7
    go_simp
    rfl
  refine wpY_call (fun v _ => v = .bool bb) rfl rfl (by first | exact runs0 | exact runs1 rfl) rfl (by exact mono_eq) ?_ ?_
  · intro a w' hR h1 h2 K hK
    have e1 : _ = _ := h1
    have e2 : _ = _ := h2
    go_simp
    refine (HRS'.out w' (HX3.out.trans hR)).mono ?_
    rintro e w2 ⟨rfl, he⟩
    exact hK _ _ he rfl
  repeat (first | (refine wpY_move0 rfl rfl (by first | exact runs0 | exact runs1 rfl) Ext.refl rfl rfl rfl ?_; apply Exists.intro; refine ⟨?_, ?_⟩; · (go_simp; rfl)) | (refine wpY_move rfl rfl (by first | exact runs0 | exact runs1 rfl) Ext.refl rfl rfl rfl (fun _ _ _ h _ => h) ?_) | (refine wpY_val rfl rfl (by first | exact runs0 | exact runs1 rfl) Ext.refl rfl ?_; apply Exists.intro; refine ⟨?_, ?_⟩; · (intro a w' hR; (try (intro h1; try have e1 : _ = _ := h1)); (try (intro h2; try have e2 : _ = _ := h2)); (try (intro h3; try have e3 : _ = _ := h3)); go_simp; rfl)) | (refine wpY_skip rfl rfl (by first | exact .inl rfl | exact .inr rfl) ?_))
  refine wpY_done ?_
  intro w4 hx4 hS
  iterate 11 (rintro _ rfl)
  dsimp only [FinV]
  go_simp
  have HX4 := Lib.hid (HX3.out.trans (show Ext _ w4 from hx4))
  have HE4 := Lib.hid (HE3.out.trans (show Ext _ w4 from hx4))
  have HEU := Lib.hid (show Ext w3 w4 from hx4)
  clear hx4 hS
  clear c0 c1 c2 c3 c4 c5 c6 c7 d0 d1 d2 d3 d4 d5 d6 d7
  obtain ⟨c0, c1, c2, c3, c4, c5, c6, c7⟩ := (HB.out.ext HE4.out).at_
  obtain ⟨d0, d1, d2, d3, d4, d5, d6, d7⟩ := (HC.out.ext HE4.out).at_
  go_wp2_with fail
  refine (HCK'.out _ HX4.out).mono ?_
  rintro e w5 ⟨rfl, he⟩
  have HX5 := Lib.hid (HX4.out.trans he)
  have HE5 := Lib.hid (HE4.out.trans he)
  have HEV := Lib.hid (HEU.out.trans he)
  clear he
  clear c0 c1 c2 c3 c4 c5 c6 c7 d0 d1 d2 d3 d4 d5 d6 d7
  obtain ⟨c0, c1, c2, c3, c4, c5, c6, c7⟩ := (HB.out.ext HE5.out).at_
  obtain ⟨d0, d1, d2, d3, d4, d5, d6, d7⟩ := (HC.out.ext HE5.out).at_
  go_wp2_with fail
  refine (HCS'.out _ HX5.out).mono ?_
  rintro e w6 ⟨rfl, he⟩
  have HX6 := Lib.hid (HX5.out.trans he)
  clear he
  go_wp2
  go_ret
  exact ⟨rfl, HX6.out⟩
set_option maxHeartbeats 8000000 in
theorem codes_good {b1 b2 : Bool} {bb : Bool} {sl : List UInt8} (hb1 : b1 = false) (hb2 : b2 = false) (hsl : sl.length ≤ 1000000) (w : World) (x0 x1 x2 x3 x4 : Int) (xA xB xC : Option Addr) (xn xc xm xd xk xe : Nat) (y0 y1 y2 y3 y4 : Int) (yA yB yC : Option Addr) (yn yc ym yd yk ye : Nat) (HL1 : ∀ W, Ext w W → Calls Tryz.prog 6 #[.agg #[.int .i64 x0, .int .i64 x1, .int .i64 x2, .int .i64 x3, .slice xA xn xc, .int .i64 x4, .slice xB xm xd, .slice xC xk xe]] W fun e w' => e = .returned (.bool b1) ∧ Ext W w') (HL2 : ∀ W, Ext w W → Calls Tryz.prog 6 #[.agg #[.int .i64 y0, .int .i64 y1, .int .i64 y2, .int .i64 y3, .slice yA yn yc, .int .i64 y4, .slice yB ym yd, .slice yC yk ye]] W fun e w' => e = .returned (.bool b2) ∧ Ext W w') (HLV : ∀ W, Ext w W → Calls Tryz.prog 7 #[] W fun e w' => e = .returned (.bool true) ∧ Ext W w') (HSA : ∀ W, Ext w W → Calls Tryz.prog 9 #[.agg #[.int .i64 x0, .int .i64 x1, .int .i64 x2, .int .i64 x3, .slice xA xn xc, .int .i64 x4, .slice xB xm xd, .slice xC xk xe], .agg #[.int .i64 y0, .int .i64 y1, .int .i64 y2, .int .i64 y3, .slice yA yn yc, .int .i64 y4, .slice yB ym yd, .slice yC yk ye]] W fun e w' => e = .returned (.bool bb) ∧ Ext W w') (HRS : ∀ W, Ext w W → Calls Tryz.prog 10 #[.agg #[.int .i64 x0, .int .i64 x1, .int .i64 x2, .int .i64 x3, .slice xA xn xc, .int .i64 x4, .slice xB xm xd, .slice xC xk xe], .agg #[.int .i64 y0, .int .i64 y1, .int .i64 y2, .int .i64 y3, .slice yA yn yc, .int .i64 y4, .slice yB ym yd, .slice yC yk ye]] W fun e w' => e = .returned (.bool bb) ∧ Ext W w') (HEN : ∀ W, Ext w W → Calls Tryz.prog 8 #[.agg #[.int .i64 x0, .int .i64 x1, .int .i64 x2, .int .i64 x3, .slice xA xn xc, .int .i64 x4, .slice xB xm xd, .slice xC xk xe]] W fun e w' => ∃ u, e = .returned (.tuple #[u, .int .i64 0]) ∧ RB w' u sl ∧ Ext W w') (HCK : ∀ W, Ext w W → Calls Tryz.prog 11 #[.agg #[.int .i64 x0, .int .i64 x1, .int .i64 x2, .int .i64 x3, .slice xA xn xc, .int .i64 x4, .slice xB xm xd, .slice xC xk xe]] W fun e w' => e = .returned (.bool true) ∧ Ext W w') (HCS : ∀ W, Ext w W → Calls Tryz.prog 12 #[.agg #[.int .i64 x0, .int .i64 x1, .int .i64 x2, .int .i64 x3, .slice xA xn xc, .int .i64 x4, .slice xB xm xd, .slice xC xk xe]] W fun e w' => e = .returned (.int .i64 0) ∧ Ext W w') (HRE : ∀ W, Ext w W → Calls Tryz.prog 14 #[.agg #[.int .i64 x0, .int .i64 x1, .int .i64 x2, .int .i64 x3, .slice xA xn xc, .int .i64 x4, .slice xB xm xd, .slice xC xk xe]] W fun e w' => ∃ u, e = .returned u ∧ RB w' u sl ∧ Ext W w') (HDE : ∀ W u, Ext w W → RB W u sl → Calls Tryz.prog 13 #[u] W fun e w' => ∃ z0 z1 z2 z3 z4 zA zB zC zn zc zm zd zk ze, e = .returned (.tuple #[.agg #[.int .i64 z0, .int .i64 z1, .int .i64 z2, .int .i64 z3, .slice zA zn zc, .int .i64 z4, .slice zB zm zd, .slice zC zk ze], .int .i64 0]) ∧ (∀ V, Ext w' V → Calls Tryz.prog 10 #[.agg #[.int .i64 z0, .int .i64 z1, .int .i64 z2, .int .i64 z3, .slice zA zn zc, .int .i64 z4, .slice zB zm zd, .slice zC zk ze], .agg #[.int .i64 x0, .int .i64 x1, .int .i64 x2, .int .i64 x3, .slice xA xn xc, .int .i64 x4, .slice xB xm xd, .slice xC xk xe]] V fun e V' => e = .returned (.bool true) ∧ Ext V V') ∧ Ext W w') : Calls Tryz.prog 3 #[.agg #[.int .i64 x0, .int .i64 x1, .int .i64 x2, .int .i64 x3, .slice xA xn xc, .int .i64 x4, .slice xB xm xd, .slice xC xk xe], .agg #[.int .i64 y0, .int .i64 y1, .int .i64 y2, .int .i64 y3, .slice yA yn yc, .int .i64 y4, .slice yB ym yd, .slice yC yk ye]] w fun e w' => e = .returned (.bool true) ∧ Ext w w' := by
  subst hb1 hb2
  have HSL := Lib.hid hsl
  clear hsl
  have HL1' := Lib.hid HL1
  have HL2' := Lib.hid HL2
  have HLV' := Lib.hid HLV
  have HSA' := Lib.hid HSA
  have HRS' := Lib.hid HRS
  have HEN' := Lib.hid HEN
  have HCK' := Lib.hid HCK
  have HCS' := Lib.hid HCS
  have HRE' := Lib.hid HRE
  have HDE' := Lib.hid HDE
  have HX := Lib.hid (((Ext.refl w).alloc (.cells #[.int .i64 x0, .int .i64 x1, .int .i64 x2, .int .i64 x3, .slice xA xn xc, .int .i64 x4, .slice xB xm xd, .slice xC xk xe] 30)).alloc (.cells #[.int .i64 y0, .int .i64 y1, .int .i64 y2, .int .i64 y3, .slice yA yn yc, .int .i64 y4, .slice yB ym yd, .slice yC yk ye] 30))
  have HB := Lib.hid ((Bx8.new w 30 (.int .i64 x0) (.int .i64 x1) (.int .i64 x2) (.int .i64 x3) (.slice xA xn xc) (.int .i64 x4) (.slice xB xm xd) (.slice xC xk xe)).ext ((Ext.refl _).alloc (.cells #[.int .i64 y0, .int .i64 y1, .int .i64 y2, .int .i64 y3, .slice yA yn yc, .int .i64 y4, .slice yB ym yd, .slice yC yk ye] 30)))
  have HC := Lib.hid (Bx8.new (w.alloc (.cells #[.int .i64 x0, .int .i64 x1, .int .i64 x2, .int .i64 x3, .slice xA xn xc, .int .i64 x4, .slice xB xm xd, .slice xC xk xe] 30)) 30 (.int .i64 y0) (.int .i64 y1) (.int .i64 y2) (.int .i64 y3) (.slice yA yn yc) (.int .i64 y4) (.slice yB ym yd) (.slice yC yk ye))
  have hsz : (w.alloc (.cells #[.int .i64 x0, .int .i64 x1, .int .i64 x2, .int .i64 x3, .slice xA xn xc, .int .i64 x4, .slice xB xm xd, .slice xC xk xe] 30)).heap.size = w.heap.size + 1 := by simp
  rw [hsz] at HC
  clear hsz HL1 HL2 HLV HSA HRS HEN HCK HCS HRE HDE
  go_enter Tryz.func3, Tryz.ntmps3
  go_upto_region 1 with fail
  generalize (w.alloc (.cells #[.int .i64 x0, .int .i64 x1, .int .i64 x2, .int .i64 x3, .slice xA xn xc, .int .i64 x4, .slice xB xm xd, .slice xC xk xe] 30)).alloc (.cells #[.int .i64 y0, .int .i64 y1, .int .i64 y2, .int .i64 y3, .slice yA yn yc, .int .i64 y4, .slice yB ym yd, .slice yC yk ye] 30) = w0 at *
  generalize w.heap.size + 1 = q at *
  generalize w.heap.size = p at *
  obtain ⟨c0, c1, c2, c3, c4, c5, c6, c7⟩ := HB.out.at_
  obtain ⟨d0, d1, d2, d3, d4, d5, d6, d7⟩ := HC.out.at_
  go_wp2_with fail
  refine (HL1'.out _ HX.out).mono ?_
  rintro e w1 ⟨rfl, he⟩
  have HX1 := Lib.hid (HX.out.trans he)
  have HE1 := Lib.hid he
  clear he
  clear c0 c1 c2 c3 c4 c5 c6 c7 d0 d1 d2 d3 d4 d5 d6 d7
  obtain ⟨c0, c1, c2, c3, c4, c5, c6, c7⟩ := (HB.out.ext HE1.out).at_
  obtain ⟨d0, d1, d2, d3, d4, d5, d6, d7⟩ := (HC.out.ext HE1.out).at_
  go_wp2_with fail
  refine (HL2'.out _ HX1.out).mono ?_
  rintro e w2 ⟨rfl, he⟩
  have HX2 := Lib.hid (HX1.out.trans he)
  have HE2 := Lib.hid (HE1.out.trans he)
  clear he
  clear c0 c1 c2 c3 c4 c5 c6 c7 d0 d1 d2 d3 d4 d5 d6 d7
  obtain ⟨c0, c1, c2, c3, c4, c5, c6, c7⟩ := (HB.out.ext HE2.out).at_
  obtain ⟨d0, d1, d2, d3, d4, d5, d6, d7⟩ := (HC.out.ext HE2.out).at_
  go_wp2_with fail
  refine (HEN'.out _ HX2.out).mono ?_
  rintro e w3 ⟨u3, rfl, hu3, he⟩
  have HU3 := Lib.hid hu3
  obtain ⟨A3, q3, rfl⟩ := hu3.form
  clear hu3
  have HX3 := Lib.hid (HX2.out.trans he)
  have HE3 := Lib.hid (HE2.out.trans he)
  clear he
  clear c0 c1 c2 c3 c4 c5 c6 c7 d0 d1 d2 d3 d4 d5 d6 d7
  obtain ⟨c0, c1, c2, c3, c4, c5, c6, c7⟩ := (HB.out.ext HE3.out).at_
  obtain ⟨d0, d1, d2, d3, d4, d5, d6, d7⟩ := (HC.out.ext HE3.out).at_
  go_upto_region 4 with fail
  have HBX := Lib.hid (show (bb != bb) = false by simp)
  have hbb := HBX.out
  go_wp2
  refine wp_regionY [] [] Ext Ext (fun _ => True) (by kernel_rfl) (by rfl) (by rfl) (by kernel_rfl) (by kernel_rfl) (by kernel_rfl) (fun _ _ _ x y => x.trans y) Ext.refl (fun _ _ x => x) (Ext.refl _).drew (fun _ _ x _ => x) trivial ?_
  refine wpY_call (fun v _ => v = .bool true) rfl rfl (by first | exact runs0 | exact runs1 rfl) rfl (by exact mono_eq) ?_ ?_
  · intro a w' hR  K hK
    go_simp
    refine (HLV'.out w' (HX3.out.trans hR)).mono ?_
    rintro e w2 ⟨rfl, he⟩
    exact hK _ _ he rfl
  repeat (first | (refine wpY_move0 rfl rfl (by first | exact runs0 | exact runs1 rfl) Ext.refl rfl rfl rfl ?_; apply Exists.intro; refine ⟨?_, ?_⟩; · (go_simp; rfl)) | (refine wpY_move rfl rfl (by first | exact runs0 | exact runs1 rfl) Ext.refl rfl rfl rfl (fun _ _ _ h _ => h) ?_) | (refine wpY_val rfl rfl (by first | exact runs0 | exact runs1 rfl) Ext.refl rfl ?_; apply Exists.intro; refine ⟨?_, ?_⟩; · (intro a w' hR; (try (intro h1; try have e1 : _ = _ := h1)); (try (intro h2; try have e2 : _ = _ := h2)); (try (intro h3; try have e3 : _ = _ := h3)); go_simp; rfl)) | (refine wpY_skip rfl rfl (by first | exact .inl rfl | exact .inr rfl) ?_))
  refine wpY_val rfl rfl (by first | exact runs0 | exact runs1 rfl) Ext.refl rfl ?_; apply Exists.intro; refine ⟨?_, ?_⟩
  · intro a w' hR h1
    have e1 : _ = _ := h1
    have hl0 := hR.cell c0
    have hl1 := hR.cell c1
    have hl2 := hR.cell c2
    have hl3 := hR.cell c3
    have hl4 := hR.cell c4
    have hl5 := hR.cell c5
    have hl6 := hR.cell c6
    have hl7 := hR.cell c7
    go_simp
    rfl
  refine wpY_val rfl rfl (by first | exact runs0 | exact runs1 rfl) Ext.refl rfl ?_; apply Exists.intro; refine ⟨?_, ?_⟩
  · intro a w' hR h1
    have e1 : _ = _ := h1
    have hl0 := hR.cell d0
    have hl1 := hR.cell d1
    have hl2 := hR.cell d2
    have hl3 := hR.cell d3
    have hl4 := hR.cell d4
    have hl5 := hR.cell d5
    have hl6 := hR.cell d6
    have hl7 := hR.cell d7
    go_simp
    rfl
  refine wpY_call (fun v _ => v = .bool bb) rfl rfl (by first | exact runs0 | exact runs1 rfl) rfl (by exact mono_eq) ?_ ?_
  · intro a w' hR h1 h2 K hK
    have e1 : _ = _ := h1
    have e2 : _ = _ := h2
    go_simp
    refine (HSA'.out w' (HX3.out.trans hR)).mono ?_
    rintro e w2 ⟨rfl, he⟩
    exact hK _ _ he rfl
  refine wpY_val rfl rfl (by first | exact runs0 | exact runs1 rfl) Ext.refl rfl ?_; apply Exists.intro; refine ⟨?_, ?_⟩
  · intro a w' hR h1
    have e1 : _ = _ := h1
    have hl0 := hR.cell c0
    have hl1 := hR.cell c1
    have hl2 := hR.cell c2
    have hl3 := hR.cell c3
    have hl4 := hR.cell c4
    have hl5 := hR.cell c5
    have hl6 := hR.cell c6
    have hl7 := hR.cell c7
    go_simp
    rfl
  refine wpY_val rfl rfl (by first | exact runs0 | exact runs1 rfl) Ext.refl rfl ?_; apply Exists.intro; refine ⟨?_, ?_⟩
  · intro a w' hR h1
    have e1 : _ = _ := h1
    have hl0 := hR.cell d0
    have hl1 := hR.cell d1
    have hl2 := hR.cell d2
    have hl3 := hR.cell d3
    have hl4 := hR.cell d4
    have hl5 := hR.cell d5
    have hl6 := hR.cell d6
    have hl7 := hR.cell d7
    go_simp
    rfl
  refine wpY_call (fun v _ => v = .bool bb) rfl rfl (by first | exact runs0 | exact runs1 rfl) rfl (by exact mono_eq) ?_ ?_
  · intro a w' hR h1 h2 K hK
    have e1 : _ = _ := h1
    have e2 : _ = _ := h2
    go_simp
    refine (HRS'.out w' (HX3.out.trans hR)).mono ?_
    rintro e w2 ⟨rfl, he⟩
    exact hK _ _ he rfl
  repeat (first | (refine wpY_move0 rfl rfl (by first | exact runs0 | exact runs1 rfl) Ext.refl rfl rfl rfl ?_; apply Exists.intro; refine ⟨?_, ?_⟩; · (go_simp; rfl)) | (refine wpY_move rfl rfl (by first | exact runs0 | exact runs1 rfl) Ext.refl rfl rfl rfl (fun _ _ _ h _ => h) ?_) | (refine wpY_val rfl rfl (by first | exact runs0 | exact runs1 rfl) Ext.refl rfl ?_; apply Exists.intro; refine ⟨?_, ?_⟩; · (intro a w' hR; (try (intro h1; try have e1 : _ = _ := h1)); (try (intro h2; try have e2 : _ = _ := h2)); (try (intro h3; try have e3 : _ = _ := h3)); go_simp; rfl)) | (refine wpY_skip rfl rfl (by first | exact .inl rfl | exact .inr rfl) ?_))
  refine wpY_done ?_
  intro w4 hx4 hS
  iterate 11 (rintro _ rfl)
  dsimp only [FinV]
  go_simp
  have HX4 := Lib.hid (HX3.out.trans (show Ext _ w4 from hx4))
  have HE4 := Lib.hid (HE3.out.trans (show Ext _ w4 from hx4))
  have HEU := Lib.hid (show Ext w3 w4 from hx4)
  clear hx4 hS
  clear c0 c1 c2 c3 c4 c5 c6 c7 d0 d1 d2 d3 d4 d5 d6 d7
  obtain ⟨c0, c1, c2, c3, c4, c5, c6, c7⟩ := (HB.out.ext HE4.out).at_
  obtain ⟨d0, d1, d2, d3, d4, d5, d6, d7⟩ := (HC.out.ext HE4.out).at_
  go_wp2_with fail
  refine (HCK'.out _ HX4.out).mono ?_
  rintro e w5 ⟨rfl, he⟩
  have HX5 := Lib.hid (HX4.out.trans he)
  have HE5 := Lib.hid (HE4.out.trans he)
  have HEV := Lib.hid (HEU.out.trans he)
  clear he
  clear c0 c1 c2 c3 c4 c5 c6 c7 d0 d1 d2 d3 d4 d5 d6 d7
  obtain ⟨c0, c1, c2, c3, c4, c5, c6, c7⟩ := (HB.out.ext HE5.out).at_
  obtain ⟨d0, d1, d2, d3, d4, d5, d6, d7⟩ := (HC.out.ext HE5.out).at_
  go_upto_region 8 with fail
  go_wp2_with fail
  refine (HDE'.out _ _ HX5.out (HU3.out.ext HEV.out)).mono ?_
  rintro e w6 ⟨z0, z1, z2, z3, z4, zA, zB, zC, zn, zc, zm, zd, zk, ze, rfl, hz, he⟩
  have HZ6 := Lib.hid hz
  have HX6 := Lib.hid (HX5.out.trans he)
  have HE6 := Lib.hid (HE5.out.trans he)
  have HU6 := Lib.hid ((HU3.out.ext HEV.out).ext he)
  clear hz he
  go_upto_region 9 with fail
  have hal := (Ext.refl w6).alloc (.cells #[.int .i64 z0, .int .i64 z1, .int .i64 z2, .int .i64 z3, .slice zA zn zc, .int .i64 z4, .slice zB zm zd, .slice zC zk ze] 30)
  have HBZ := Lib.hid (Bx8.new w6 30 (.int .i64 z0) (.int .i64 z1) (.int .i64 z2) (.int .i64 z3) (.slice zA zn zc) (.int .i64 z4) (.slice zB zm zd) (.slice zC zk ze))
  have HX7 := Lib.hid (HX6.out.trans hal)
  have HE7 := Lib.hid (HE6.out.trans hal)
  have HU7 := Lib.hid (HU6.out.ext hal)
  have HZ7 := Lib.hid (fun V h => HZ6.out V (hal.trans h))
  clear hal
  generalize w6.alloc (.cells #[.int .i64 z0, .int .i64 z1, .int .i64 z2, .int .i64 z3, .slice zA zn zc, .int .i64 z4, .slice zB zm zd, .slice zC zk ze] 30) = w7 at *
  generalize w6.heap.size = rr at *
  obtain ⟨f0, f1, f2, f3, f4, f5, f6, f7⟩ := HBZ.out.at_
  clear c0 c1 c2 c3 c4 c5 c6 c7 d0 d1 d2 d3 d4 d5 d6 d7
  obtain ⟨c0, c1, c2, c3, c4, c5, c6, c7⟩ := (HB.out.ext HE7.out).at_
  obtain ⟨d0, d1, d2, d3, d4, d5, d6, d7⟩ := (HC.out.ext HE7.out).at_
  have hbs := bs_eq26 sl
  go_wp2
  refine wp_regionY [] [] Ext Ext (fun _ => True) (by kernel_rfl) (by rfl) (by rfl) (by kernel_rfl) (by kernel_rfl) (by kernel_rfl) (fun _ _ _ x y => x.trans y) Ext.refl (fun _ _ x => x) (Ext.refl _).drew (fun _ _ x _ => x) trivial ?_
  repeat (first | (refine wpY_move0 rfl rfl (by first | exact runs0 | exact runs1 rfl) Ext.refl rfl rfl rfl ?_; apply Exists.intro; refine ⟨?_, ?_⟩; · (go_simp; rfl)) | (refine wpY_move rfl rfl (by first | exact runs0 | exact runs1 rfl) Ext.refl rfl rfl rfl (fun _ _ _ h _ => h) ?_) | (refine wpY_val rfl rfl (by first | exact runs0 | exact runs1 rfl) Ext.refl rfl ?_; apply Exists.intro; refine ⟨?_, ?_⟩; · (intro a w' hR; (try (intro h1; try have e1 : _ = _ := h1)); (try (intro h2; try have e2 : _ = _ := h2)); (try (intro h3; try have e3 : _ = _ := h3)); go_simp; rfl)) | (refine wpY_skip rfl rfl (by first | exact .inl rfl | exact .inr rfl) ?_))
  refine wpY_val rfl rfl (by first | exact runs0 | exact runs1 rfl) Ext.refl rfl ?_; apply Exists.intro; refine ⟨?_, ?_⟩
  · intro a w' hR h1
    have e1 : _ = _ := h1
    have hl0 := hR.cell c0
    have hl1 := hR.cell c1
    have hl2 := hR.cell c2
    have hl3 := hR.cell c3
    have hl4 := hR.cell c4
    have hl5 := hR.cell c5
    have hl6 := hR.cell c6
    have hl7 := hR.cell c7
    go_simp
    rfl
  refine wpY_call (fun v _ => v = .int .i64 0) rfl rfl (by first | exact runs0 | exact runs1 rfl) rfl (by exact mono_eq) ?_ ?_
  · intro a w' hR h1 K hK
    have e1 : _ = _ := h1
    go_simp
    refine (HCS'.out w' (HX7.out.trans hR)).mono ?_
    rintro e w2 ⟨rfl, he⟩
    exact hK _ _ he rfl
  repeat (first | (refine wpY_move0 rfl rfl (by first | exact runs0 | exact runs1 rfl) Ext.refl rfl rfl rfl ?_; apply Exists.intro; refine ⟨?_, ?_⟩; · (go_simp; rfl)) | (refine wpY_move rfl rfl (by first | exact runs0 | exact runs1 rfl) Ext.refl rfl rfl rfl (fun _ _ _ h _ => h) ?_) | (refine wpY_val rfl rfl (by first | exact runs0 | exact runs1 rfl) Ext.refl rfl ?_; apply Exists.intro; refine ⟨?_, ?_⟩; · (intro a w' hR; (try (intro h1; try have e1 : _ = _ := h1)); (try (intro h2; try have e2 : _ = _ := h2)); (try (intro h3; try have e3 : _ = _ := h3)); go_simp; rfl)) | (refine wpY_skip rfl rfl (by first | exact .inl rfl | exact .inr rfl) ?_))
  refine wpY_val rfl rfl (by first | exact runs0 | exact runs1 rfl) Ext.refl rfl ?_; apply Exists.intro; refine ⟨?_, ?_⟩
  · intro a w' hR h1
    have e1 : _ = _ := h1
    have hs := strB (HU7.out.ext hR)
    go_simp
    rfl
  refine wpY_val rfl rfl (by first | exact runs0 | exact runs1 rfl) Ext.refl rfl ?_; apply Exists.intro; refine ⟨?_, ?_⟩
  · intro a w' hR h1
    have e1 : _ = _ := h1
    have hl0 := hR.cell c0
    have hl1 := hR.cell c1
    have hl2 := hR.cell c2
    have hl3 := hR.cell c3
    have hl4 := hR.cell c4
    have hl5 := hR.cell c5
    have hl6 := hR.cell c6
    have hl7 := hR.cell c7
    go_simp
    rfl
  refine wpY_call (fun v w2 => RB w2 v sl) rfl rfl (by first | exact runs0 | exact runs1 rfl) rfl (by first | exact mono_eq | exact (fun _ _ _ h k => Rd.ext h k) | exact (fun _ _ _ h k => RB.ext h k) | exact (fun _ _ _ h k => OB.ext h k) | exact (fun _ _ _ h k => RB.extS h k) | exact (fun _ _ _ h k => Rd.ext h (GrownW.ext k)) | exact (fun _ _ _ h k => RP.ext h k) | exact (fun _ _ _ h k => OP.ext h k) | exact (fun _ _ _ h k => Rd.extV h k) | exact (fun _ _ _ h k => RB.extV h k) | exact (fun _ _ _ h k => E0.ext h k) | exact (fun _ _ _ h k => O0.ext h k) | exact (fun _ _ _ h k => RE.ext h k) | exact (fun _ _ _ h k => RE.extD h k) | exact (fun _ _ _ h _ => h) | exact (fun _ _ _ ⟨n, h1, h2⟩ k => ⟨n, h1, k.st _ _ h2⟩)) ?_ ?_
  · intro a w' hR h1 K hK
    have e1 : _ = _ := h1
    go_simp
    refine (HRE'.out w' (HX7.out.trans hR)).mono ?_
    rintro e w2 ⟨x, rfl, hx, he⟩
    exact hK _ _ he hx
  refine wpY_val rfl rfl (by first | exact runs0 | exact runs1 rfl) Ext.refl rfl ?_; apply Exists.intro; refine ⟨?_, ?_⟩
  · intro a w' hR h1
    obtain ⟨x, ex, fx⟩ : ∃ x, a.tmps.getD 63 undef = x ∧ (fun v w2 => RB w2 v sl) x w' := ⟨_, rfl, h1⟩
    have hs := strB fx
    go_simp
    rfl
  repeat (first | (refine wpY_move0 rfl rfl (by first | exact runs0 | exact runs1 rfl) Ext.refl rfl rfl rfl ?_; apply Exists.intro; refine ⟨?_, ?_⟩; · (go_simp; rfl)) | (refine wpY_move rfl rfl (by first | exact runs0 | exact runs1 rfl) Ext.refl rfl rfl rfl (fun _ _ _ h _ => h) ?_) | (refine wpY_val rfl rfl (by first | exact runs0 | exact runs1 rfl) Ext.refl rfl ?_; apply Exists.intro; refine ⟨?_, ?_⟩; · (intro a w' hR; (try (intro h1; try have e1 : _ = _ := h1)); (try (intro h2; try have e2 : _ = _ := h2)); (try (intro h3; try have e3 : _ = _ := h3)); go_simp; rfl)) | (refine wpY_skip rfl rfl (by first | exact .inl rfl | exact .inr rfl) ?_))
  refine wpY_val rfl rfl (by first | exact runs0 | exact runs1 rfl) Ext.refl rfl ?_; apply Exists.intro; refine ⟨?_, ?_⟩
  · intro a w' hR h1
    have e1 : _ = _ := h1
    have hl0 := hR.cell f0
    have hl1 := hR.cell f1
    have hl2 := hR.cell f2
    have hl3 := hR.cell f3
    have hl4 := hR.cell f4
    have hl5 := hR.cell f5
    have hl6 := hR.cell f6
    have hl7 := hR.cell f7
    go_simp
    rfl
  refine wpY_val rfl rfl (by first | exact runs0 | exact runs1 rfl) Ext.refl rfl ?_; apply Exists.intro; refine ⟨?_, ?_⟩
  · intro a w' hR h1
    have e1 : _ = _ := h1
    have hl0 := hR.cell c0
    have hl1 := hR.cell c1
    have hl2 := hR.cell c2
    have hl3 := hR.cell c3
    have hl4 := hR.cell c4
    have hl5 := hR.cell c5
    have hl6 := hR.cell c6
    have hl7 := hR.cell c7
    go_simp
    rfl
  refine wpY_call (fun v _ => v = .bool true) rfl rfl (by first | exact runs0 | exact runs1 rfl) rfl (by exact mono_eq) ?_ ?_
  · intro a w' hR h1 h2 K hK
    have e1 : _ = _ := h1
    have e2 : _ = _ := h2
    go_simp
    refine (HZ7.out w' hR).mono ?_
    rintro e w2 ⟨rfl, he⟩
    exact hK _ _ he rfl
  repeat (first | (refine wpY_move0 rfl rfl (by first | exact runs0 | exact runs1 rfl) Ext.refl rfl rfl rfl ?_; apply Exists.intro; refine ⟨?_, ?_⟩; · (go_simp; rfl)) | (refine wpY_move rfl rfl (by first | exact runs0 | exact runs1 rfl) Ext.refl rfl rfl rfl (fun _ _ _ h _ => h) ?_) | (refine wpY_val rfl rfl (by first | exact runs0 | exact runs1 rfl) Ext.refl rfl ?_; apply Exists.intro; refine ⟨?_, ?_⟩; · (intro a w' hR; (try (intro h1; try have e1 : _ = _ := h1)); (try (intro h2; try have e2 : _ = _ := h2)); (try (intro h3; try have e3 : _ = _ := h3)); go_simp; rfl)) | (refine wpY_skip rfl rfl (by first | exact .inl rfl | exact .inr rfl) ?_))
  refine wpY_done ?_
  intro w8 hx8 hS
  iterate 11 (rintro _ rfl)
  rintro v63 h63
  iterate 13 (rintro _ rfl)
  dsimp only [FinV]
  go_simp
  have hx8 : Ext w7 w8 := hx8
  go_wp2
  go_ret
  exact ⟨rfl, HX7.out.trans hx8⟩
end Go.Proofs.YtpmpjjhchkoboaaGreatDoor
