/-
  Layer 21: one contract for an addition; what must come of every program.
-/
import Derived.Test.YtngdlahgihbmhaaCntR3
namespace Go.Proofs.Ytngdlahgihbmhaa
open Go.RowKit Go.Ox Go.Shelf
set_option linter.unusedVariables false
set_option linter.unusedSimpArgs false
attribute [local irreducible] OP RP

theorem add_any (w : World) (g b : Nat) (L : List Cnt.S) (h : CM w g b L) (k : Cnt.K) (n : Int) :
    Calls Try.prog 10 #[.pointer (some ⟨g, 0, none⟩), pV2 k.1, pV2 k.2, .int .i64 n] w fun e w' => e = .returned (.int .i64 (Cnt.add L k n).2) ∧ CM w' g b (Cnt.add L k n).1 ∧ ExtM b w w' := by
  unfold Cnt.add
  cases hk : Mom.ok k.2 with
  | false =>
    rw [if_pos rfl]
    exact (add_bad w g b L h k n hk).mono fun _ _ ⟨h1, h2⟩ => ⟨h1, h.ext h2, ExtM.of h2⟩
  | true =>
    rw [if_neg (by simp)]
    by_cases hr : n < - Cnt.was L k ∨ 1073741824 - Cnt.was L k < n
    · rw [if_pos hr]
      exact (add_err w g b L h k n hk hr).mono fun _ _ ⟨h1, h2⟩ => ⟨h1, h.ext h2, ExtM.of h2⟩
    · rw [if_neg hr]
      by_cases hz : Cnt.was L k + n = 0
      · exact (add_zero w g b L h k n hk (by omega) (by omega) hz).mono fun _ _ ⟨h1, h2, w1, h3, h4⟩ => ⟨h1, h2, (ExtM.of h3).trans h4⟩
      · exact (add_ok w g b L h k n hk (by omega) (by omega) hz).mono fun _ _ ⟨h1, h2, w1, h3, h4⟩ => ⟨h1, h2, (ExtM.of h3).trans h4⟩
theorem radd_any (w : World) (g : Nat) (L : List Cnt.S) (h : XM w g L) (hl : L.length ≤ 100000) (k : Cnt.K) (n : Int) :
    Calls Try.prog 11 #[.pointer (some ⟨g, 0, none⟩), pV2 k.1, pV2 k.2, .int .i64 n] w fun e w' => e = .returned (.int .i64 (Cnt.add L k n).2) ∧ XM w' g (Cnt.add L k n).1 ∧ ExtG g w w' := by
  unfold Cnt.add
  cases hk : Mom.ok k.2 with
  | false =>
    rw [if_pos rfl]
    exact (radd_bad w g L h k n hk).mono fun _ _ ⟨h1, h2⟩ => ⟨h1, h.ext h2, ExtG.of h2⟩
  | true =>
    rw [if_neg (by simp)]
    by_cases hr : n < - Cnt.was L k ∨ 1073741824 - Cnt.was L k < n
    · rw [if_pos hr]
      exact (radd_err w g L h hl k n hk hr).mono fun _ _ ⟨h1, h2⟩ => ⟨h1, h.ext h2, ExtG.of h2⟩
    · rw [if_neg hr]
      exact (radd_ok w g L h hl k n hk (by omega) (by omega)).mono fun _ _ ⟨h1, h2, h3⟩ => ⟨h1, h2, h3⟩

/-! ### lives -/
abbrev lk1 : Cnt.K := ((2, -1), (1, 0))
abbrev lk2 : Cnt.K := ((1, 0), (1, 0))
theorem live_1 : Cnt.add [] lk1 2 = ([(lk1, 2)], 0) := by decide +kernel
theorem live_2 : Cnt.add [(lk1, 2)] lk2 1 = ([(lk2, 1), (lk1, 2)], 0) := by decide +kernel
theorem live_3 : Cnt.add [(lk2, 1), (lk1, 2)] lk1 (-3) = ([(lk2, 1), (lk1, 2)], 210) := by decide +kernel
theorem live_4 : Cnt.add [(lk2, 1), (lk1, 2)] lk1 (-2) = ([(lk2, 1)], 0) := by decide +kernel
theorem live_5 : Cnt.add [(lk2, 1)] ((2, -1), (-1, 0)) 1 = ([(lk2, 1)], 40) := by decide +kernel
theorem live_w1 : Cnt.was [(lk2, 1)] lk1 = 0 := by decide +kernel
theorem live_w2 : Cnt.was [(lk2, 1), (lk1, 2)] lk1 = 2 := by decide +kernel
theorem live_t1 : Cnt.tot [(lk2, 1)] = 1 := by decide +kernel
theorem live_t2 : Cnt.tot [(lk2, 1), (lk1, 2)] = 3 := by decide +kernel
theorem live_m : (momsOf [(lk2, 1), (lk1, 2)] (2, -1)).length = 1 := by decide +kernel

set_option maxRecDepth 100000 in
set_option maxHeartbeats 8000000 in
theorem lives_any (w : World) : Calls Try.prog 9 #[] w fun e w' => e = .returned (.bool true) ∧ Ext w w' := by
  have HA1 := Lib.hid (fun w g b (h : CM w g b []) => add_any w g b [] h lk1 2)
  have HA2 := Lib.hid (fun w g b (h : CM w g b [(lk1, 2)]) => add_any w g b _ h lk2 1)
  have HA3 := Lib.hid (fun w g b (h : CM w g b [(lk2, 1), (lk1, 2)]) => add_any w g b _ h lk1 (-3))
  have HA4 := Lib.hid (fun w g b (h : CM w g b [(lk2, 1), (lk1, 2)]) => add_any w g b _ h lk1 (-2))
  have HA5 := Lib.hid (fun w g b (h : CM w g b [(lk2, 1)]) => add_any w g b _ h ((2, -1), (-1, 0)) 1)
  rw [live_1] at HA1
  rw [live_2] at HA2
  rw [live_3] at HA3
  rw [live_4] at HA4
  rw [live_5] at HA5
  have HO1 := Lib.hid (fun w g b (h : CM w g b [(lk2, 1)]) => of_any w g b _ h lk1)
  have HO2 := Lib.hid (fun w g b (h : CM w g b [(lk2, 1), (lk1, 2)]) => of_any w g b _ h lk1)
  rw [live_w1] at HO1
  rw [live_w2] at HO2
  have HT1 := Lib.hid (fun w g b (h : CM w g b [(lk2, 1)]) => total_any w g b _ h (by decide))
  have HT2 := Lib.hid (fun w g b (h : CM w g b [(lk2, 1), (lk1, 2)]) => total_any w g b _ h (by decide))
  rw [live_t1] at HT1
  rw [live_t2] at HT2
  have HS := Lib.hid (fun w g b (h : CM w g b [(lk2, 1), (lk1, 2)]) => stamps_any w g b _ h (by decide))
  have HM := Lib.hid (fun w g b (h : CM w g b [(lk2, 1), (lk1, 2)]) => moments_any w g b _ h (by decide) (2, -1))
  have HEQ := Lib.hid (eqS (lk1, 2) (lk1, 2))
  dsimp only [sV] at HEQ
  rw [show stB (lk1, 2) (lk1, 2) = true by decide +kernel] at HEQ
  have hG := guardS
  go_enter Try.func9, Try.ntmps9
  go_wp2_with fail
  refine (new_any _).mono ?_
  rintro e w1 ⟨g, b, rfl, hg1, hb1, hc, hx1⟩
  have HC := Lib.hid hc
  have HX1 := Lib.hid hx1
  have HG := Lib.hid hg1
  have HB := Lib.hid hb1
  clear hc hx1 hg1 hb1
  go_wp2
  obtain ⟨p0, p1, m0, m1⟩ := boxP w1 (.int .i64 2) (.int .i64 (-1)) (.int .i64 1) (.int .i64 0)
  have hx2 : Ext w1 ((w1.alloc (.cells #[.int .i64 2, .int .i64 (-1)] 30)).alloc (.cells #[.int .i64 1, .int .i64 0] 32)) := ((Ext.refl _).alloc _).alloc _
  have HC2 := Lib.hid (HC.out.ext hx2)
  have HX2 := Lib.hid (HX1.out.trans hx2)
  clear hx2
  generalize ((w1.alloc (.cells #[.int .i64 2, .int .i64 (-1)] 30)).alloc (.cells #[.int .i64 1, .int .i64 0] 32)) = w2 at *
  generalize w1.heap.size = np at *
  refine wp_regionY [18, 22] [] Ext (ExtM b) (fun w => CM w g b []) (by kernel_rfl) (by rfl) (by rfl) (by kernel_rfl) (by kernel_rfl) (by kernel_rfl) (fun _ _ _ x y => x.trans y) (ExtM.refl b) (fun _ _ x => ExtM.of x) (Ext.refl _).drew (fun _ _ x y => x.ext y) (HC2.out) ?_
  repeat (first | (refine wpY_move0 rfl rfl (by first | exact runs0 | exact runs1 rfl) Ext.refl rfl rfl rfl ?_; apply Exists.intro; refine ⟨?_, ?_⟩; · (go_simp; rfl)) | (refine wpY_move rfl rfl (by first | exact runs0 | exact runs1 rfl) Ext.refl rfl rfl rfl (fun _ _ _ h _ => h) ?_) | (refine wpY_val rfl rfl (by first | exact runs0 | exact runs1 rfl) Ext.refl rfl ?_; apply Exists.intro; refine ⟨?_, ?_⟩; · (intro a w' hR; intro h1; (first | (have e1 : _ = _ := h1) | skip); intro h2; (first | (have e2 : _ = _ := h2) | skip); go_simp; rfl)) | (refine wpY_val rfl rfl (by first | exact runs0 | exact runs1 rfl) Ext.refl rfl ?_; apply Exists.intro; refine ⟨?_, ?_⟩; · (intro a w' hR; intro h1; (first | (have e1 : _ = _ := h1) | skip); go_simp; rfl)) | (refine wpY_val rfl rfl (by first | exact runs0 | exact runs1 rfl) Ext.refl rfl ?_; apply Exists.intro; refine ⟨?_, ?_⟩; · (intro a w' hR; go_simp; rfl)) | (refine wpY_val rfl rfl (by first | exact runs0 | exact runs1 rfl) Ext.refl rfl ?_; apply Exists.intro; refine ⟨?_, ?_⟩; · (intro a w' hR; intro h1; (first | (have e1 : _ = _ := h1) | skip); intro h2; (first | (have e2 : _ = _ := h2) | skip); intro h3; (first | (have e3 : _ = _ := h3) | skip); go_simp; rfl)) | (refine wpY_skip rfl rfl (by first | exact .inl rfl | exact .inr rfl) ?_))
  refine wpY_val rfl rfl (by first | exact runs0 | exact runs1 rfl) Ext.refl rfl ?_; apply Exists.intro; refine ⟨?_, ?_⟩
  · intro a w' hR h1
    have e1 : _ = _ := h1
    have hl := hR.cells _ _ p0
    have hl2 := hR.cells _ _ p1
    go_simp
    rfl
  refine wpY_val rfl rfl (by first | exact runs0 | exact runs1 rfl) Ext.refl rfl ?_; apply Exists.intro; refine ⟨?_, ?_⟩
  · intro a w' hR h1
    have e1 : _ = _ := h1
    have hl := hR.cells _ _ m0
    have hl2 := hR.cells _ _ m1
    go_simp
    rfl
  refine wpY_eff (fun v _ => v = .int .i64 0) (fun w => CM w g b [(lk1, 2)]) rfl (by first | exact runs0 | exact runs1 rfl) rfl (by first | exact mono_eq | exact (fun _ _ _ h k => Rd.ext h k) | exact (fun _ _ _ h k => RB.ext h k) | exact (fun _ _ _ h k => OB.ext h k) | exact (fun _ _ _ h k => RB.extS h k) | exact (fun _ _ _ h k => Rd.ext h (GrownW.ext k)) | exact (fun _ _ _ h k => RP.ext h k) | exact (fun _ _ _ h k => OP.ext h k) | exact (fun _ _ _ h k => Rd.extV h k) | exact (fun _ _ _ h k => RB.extV h k) | exact (fun _ _ _ h k => E0.ext h k) | exact (fun _ _ _ h k => O0.ext h k) | exact (fun _ _ _ h _ => h)) (fun _ _ x y => x.ext y) ?_ ?_
  · intro a w' hR hS h1 h2 h3 K hK
    have e1 : _ = _ := h1
    have e2 : _ = _ := h2
    have e3 : _ = _ := h3
    go_simp
    refine (HA1.out w' g b hS).mono ?_
    rintro e w2 ⟨rfl, hc, he⟩
    exact hK _ _ he hc rfl
  repeat (first | (refine wpY_move0 rfl rfl (by first | exact runs0 | exact runs1 rfl) Ext.refl rfl rfl rfl ?_; apply Exists.intro; refine ⟨?_, ?_⟩; · (go_simp; rfl)) | (refine wpY_move rfl rfl (by first | exact runs0 | exact runs1 rfl) Ext.refl rfl rfl rfl (fun _ _ _ h _ => h) ?_) | (refine wpY_val rfl rfl (by first | exact runs0 | exact runs1 rfl) Ext.refl rfl ?_; apply Exists.intro; refine ⟨?_, ?_⟩; · (intro a w' hR; intro h1; (first | (have e1 : _ = _ := h1) | skip); intro h2; (first | (have e2 : _ = _ := h2) | skip); go_simp; rfl)) | (refine wpY_val rfl rfl (by first | exact runs0 | exact runs1 rfl) Ext.refl rfl ?_; apply Exists.intro; refine ⟨?_, ?_⟩; · (intro a w' hR; intro h1; (first | (have e1 : _ = _ := h1) | skip); go_simp; rfl)) | (refine wpY_val rfl rfl (by first | exact runs0 | exact runs1 rfl) Ext.refl rfl ?_; apply Exists.intro; refine ⟨?_, ?_⟩; · (intro a w' hR; go_simp; rfl)) | (refine wpY_val rfl rfl (by first | exact runs0 | exact runs1 rfl) Ext.refl rfl ?_; apply Exists.intro; refine ⟨?_, ?_⟩; · (intro a w' hR; intro h1; (first | (have e1 : _ = _ := h1) | skip); intro h2; (first | (have e2 : _ = _ := h2) | skip); intro h3; (first | (have e3 : _ = _ := h3) | skip); go_simp; rfl)) | (refine wpY_skip rfl rfl (by first | exact .inl rfl | exact .inr rfl) ?_))
  refine wpY_val rfl rfl (by first | exact runs0 | exact runs1 rfl) Ext.refl rfl ?_; apply Exists.intro; refine ⟨?_, ?_⟩
  · intro a w' hR h1
    have e1 : _ = _ := h1
    have hl := hR.cells _ _ m0
    have hl2 := hR.cells _ _ m1
    go_simp
    rfl
  refine wpY_eff (fun v _ => v = .int .i64 0) (fun w => CM w g b [(lk2, 1), (lk1, 2)]) rfl (by first | exact runs0 | exact runs1 rfl) rfl (by first | exact mono_eq | exact (fun _ _ _ h k => Rd.ext h k) | exact (fun _ _ _ h k => RB.ext h k) | exact (fun _ _ _ h k => OB.ext h k) | exact (fun _ _ _ h k => RB.extS h k) | exact (fun _ _ _ h k => Rd.ext h (GrownW.ext k)) | exact (fun _ _ _ h k => RP.ext h k) | exact (fun _ _ _ h k => OP.ext h k) | exact (fun _ _ _ h k => Rd.extV h k) | exact (fun _ _ _ h k => RB.extV h k) | exact (fun _ _ _ h k => E0.ext h k) | exact (fun _ _ _ h k => O0.ext h k) | exact (fun _ _ _ h _ => h)) (fun _ _ x y => x.ext y) ?_ ?_
  · intro a w' hR hS h1 h2 h3 K hK
    have e1 : _ = _ := h1
    have e2 : _ = _ := h2
    have e3 : _ = _ := h3
    go_simp
    refine (HA2.out w' g b hS).mono ?_
    rintro e w2 ⟨rfl, hc, he⟩
    exact hK _ _ he hc rfl
  repeat (first | (refine wpY_move0 rfl rfl (by first | exact runs0 | exact runs1 rfl) Ext.refl rfl rfl rfl ?_; apply Exists.intro; refine ⟨?_, ?_⟩; · (go_simp; rfl)) | (refine wpY_move rfl rfl (by first | exact runs0 | exact runs1 rfl) Ext.refl rfl rfl rfl (fun _ _ _ h _ => h) ?_) | (refine wpY_val rfl rfl (by first | exact runs0 | exact runs1 rfl) Ext.refl rfl ?_; apply Exists.intro; refine ⟨?_, ?_⟩; · (intro a w' hR; intro h1; (first | (have e1 : _ = _ := h1) | skip); intro h2; (first | (have e2 : _ = _ := h2) | skip); go_simp; rfl)) | (refine wpY_val rfl rfl (by first | exact runs0 | exact runs1 rfl) Ext.refl rfl ?_; apply Exists.intro; refine ⟨?_, ?_⟩; · (intro a w' hR; intro h1; (first | (have e1 : _ = _ := h1) | skip); go_simp; rfl)) | (refine wpY_val rfl rfl (by first | exact runs0 | exact runs1 rfl) Ext.refl rfl ?_; apply Exists.intro; refine ⟨?_, ?_⟩; · (intro a w' hR; go_simp; rfl)) | (refine wpY_val rfl rfl (by first | exact runs0 | exact runs1 rfl) Ext.refl rfl ?_; apply Exists.intro; refine ⟨?_, ?_⟩; · (intro a w' hR; intro h1; (first | (have e1 : _ = _ := h1) | skip); intro h2; (first | (have e2 : _ = _ := h2) | skip); intro h3; (first | (have e3 : _ = _ := h3) | skip); go_simp; rfl)) | (refine wpY_skip rfl rfl (by first | exact .inl rfl | exact .inr rfl) ?_))
  refine wpY_done ?_
  intro w3 hx3 hS3
  iterate 10 (rintro _ rfl)
  dsimp only [FinV]
  go_simp
  have hx3' : ExtM b w2 w3 := hx3
  have HX3 := Lib.hid (HX2.out.andM hx3' HB.out)
  have p0 := hx3'.cells _ _ p0
  have p1 := hx3'.cells _ _ p1
  have m0 := hx3'.cells _ _ m0
  have m1 := hx3'.cells _ _ m1
  have HC3 := Lib.hid hS3
  have hlt3 := hS3.lt
  clear hx3 hx3' hS3 HC2
  go_wp2_with fail
  refine (clone_any w3 g b _ HC3.out).mono ?_
  rintro e w4 ⟨gd, bd, rfl, hgd, hbd, hd, hx4⟩
  have HGD := Lib.hid (show gd ≠ b by omega)
  have HBD := Lib.hid (show bd ≠ b by omega)
  have HX4 := Lib.hid (HX3.out.trans hx4)
  have p0 := hx4.cell p0
  have p1 := hx4.cell p1
  have m0 := hx4.cell m0
  have m1 := hx4.cell m1
  have HC4 := Lib.hid (HC3.out.ext hx4)
  have HD4 := Lib.hid hd
  clear hx4 hd hgd hbd hlt3
  go_wp2_with fail
  refine (HA3.out w4 g b HC4.out).mono ?_
  rintro e w5 ⟨rfl, hc5, hx5⟩
  have HX5 := Lib.hid (HX4.out.andM hx5 HB.out)
  have p0 := hx5.cells _ _ p0
  have p1 := hx5.cells _ _ p1
  have m0 := hx5.cells _ _ m0
  have m1 := hx5.cells _ _ m1
  have HC5 := Lib.hid hc5
  have HD5 := Lib.hid (HD4.out.extM hx5 HGD.out HBD.out)
  clear hx5 hc5
  go_wp2_with fail
  refine (HA4.out w5 g b HC5.out).mono ?_
  rintro e w6 ⟨rfl, hc6, hx6⟩
  have HX6 := Lib.hid (HX5.out.andM hx6 HB.out)
  have p0 := hx6.cells _ _ p0
  have p1 := hx6.cells _ _ p1
  have m0 := hx6.cells _ _ m0
  have m1 := hx6.cells _ _ m1
  have HC6 := Lib.hid hc6
  have HD6 := Lib.hid (HD5.out.extM hx6 HGD.out HBD.out)
  clear hx6 hc6
  go_wp2_with fail
  refine (HS.out w6 gd bd HD6.out).mono ?_
  rintro e w7 ⟨vs, rfl, hs7, hx7⟩
  have HS7 := Lib.hid hs7.re
  obtain ⟨AS, cS, rfl⟩ := hs7.re.form
  have HX7 := Lib.hid (HX6.out.trans hx7)
  have p0 := hx7.cell p0
  have p1 := hx7.cell p1
  have m0 := hx7.cell m0
  have m1 := hx7.cell m1
  have HC7 := Lib.hid (HC6.out.ext hx7)
  have HD7 := Lib.hid (HD6.out.ext hx7)
  clear hx7 hs7
  obtain ⟨bS, oS, hAS, e0, e1, e2, e3, e4⟩ := re5 HS7.out (i := 1) (by decide)
  subst hAS
  have y0 : w7.cell? ⟨bS, oS + 5, none⟩ = some (.int .i64 2) := e0
  have y1 : w7.cell? ⟨bS, oS + 5 + 1, none⟩ = some (.int .i64 (-1)) := e1
  have y2 : w7.cell? ⟨bS, oS + 5 + 2, none⟩ = some (.int .i64 1) := e2
  have y3 : w7.cell? ⟨bS, oS + 5 + 3, none⟩ = some (.int .i64 0) := e3
  have y4 : w7.cell? ⟨bS, oS + 5 + 4, none⟩ = some (.int .i64 2) := e4
  clear e0 e1 e2 e3 e4
  have hEQ := HEQ.out
  go_wp2
  refine wp_regionY [102] [53, 69] Ext (ExtM b) (fun w => CM w g b [(lk2, 1)]) (by kernel_rfl) (by rfl) (by rfl) (by kernel_rfl) (by kernel_rfl) (by kernel_rfl) (fun _ _ _ x y => x.trans y) (ExtM.refl b) (fun _ _ x => ExtM.of x) (Ext.refl _).drew (fun _ _ x y => x.ext y) (HC7.out) ?_
  repeat (first | (refine wpY_move0 rfl rfl (by first | exact runs0 | exact runs1 rfl) Ext.refl rfl rfl rfl ?_; apply Exists.intro; refine ⟨?_, ?_⟩; · (go_simp; rfl)) | (refine wpY_move rfl rfl (by first | exact runs0 | exact runs1 rfl) Ext.refl rfl rfl rfl (fun _ _ _ h _ => h) ?_) | (refine wpY_val rfl rfl (by first | exact runs0 | exact runs1 rfl) Ext.refl rfl ?_; apply Exists.intro; refine ⟨?_, ?_⟩; · (intro a w' hR; intro h1; (first | (have e1 : _ = _ := h1) | skip); intro h2; (first | (have e2 : _ = _ := h2) | skip); go_simp; rfl)) | (refine wpY_val rfl rfl (by first | exact runs0 | exact runs1 rfl) Ext.refl rfl ?_; apply Exists.intro; refine ⟨?_, ?_⟩; · (intro a w' hR; intro h1; (first | (have e1 : _ = _ := h1) | skip); go_simp; rfl)) | (refine wpY_val rfl rfl (by first | exact runs0 | exact runs1 rfl) Ext.refl rfl ?_; apply Exists.intro; refine ⟨?_, ?_⟩; · (intro a w' hR; go_simp; rfl)) | (refine wpY_val rfl rfl (by first | exact runs0 | exact runs1 rfl) Ext.refl rfl ?_; apply Exists.intro; refine ⟨?_, ?_⟩; · (intro a w' hR; intro h1; (first | (have e1 : _ = _ := h1) | skip); intro h2; (first | (have e2 : _ = _ := h2) | skip); intro h3; (first | (have e3 : _ = _ := h3) | skip); go_simp; rfl)) | (refine wpY_skip rfl rfl (by first | exact .inl rfl | exact .inr rfl) ?_))
  refine wpY_val rfl rfl (by first | exact runs0 | exact runs1 rfl) Ext.refl rfl ?_; apply Exists.intro; refine ⟨?_, ?_⟩
  · intro a w' hR h1
    have e1 : _ = _ := h1
    have hl := hR.cells _ _ p0
    have hl2 := hR.cells _ _ p1
    go_simp
    rfl
  refine wpY_val rfl rfl (by first | exact runs0 | exact runs1 rfl) Ext.refl rfl ?_; apply Exists.intro; refine ⟨?_, ?_⟩
  · intro a w' hR h1
    have e1 : _ = _ := h1
    have hl := hR.cells _ _ m0
    have hl2 := hR.cells _ _ m1
    go_simp
    rfl
  refine wpY_callA (fun v _ => v = .int .i64 0) rfl rfl (by first | exact runs0 | exact runs1 rfl) rfl (by first | exact mono_eq | exact (fun _ _ _ h k => Rd.ext h k) | exact (fun _ _ _ h k => RB.ext h k) | exact (fun _ _ _ h k => OB.ext h k) | exact (fun _ _ _ h k => RB.extS h k) | exact (fun _ _ _ h k => Rd.ext h (GrownW.ext k)) | exact (fun _ _ _ h k => RP.ext h k) | exact (fun _ _ _ h k => OP.ext h k) | exact (fun _ _ _ h k => Rd.extV h k) | exact (fun _ _ _ h k => RB.extV h k) | exact (fun _ _ _ h k => E0.ext h k) | exact (fun _ _ _ h k => O0.ext h k) | exact (fun _ _ _ h _ => h)) ?_ ?_
  · intro a w' hR hS h1 h2 h3 K hK
    have e1 : _ = _ := h1
    have e2 : _ = _ := h2
    have e3 : _ = _ := h3
    go_simp
    refine (HO1.out w' g b hS).mono ?_
    rintro e w2 ⟨rfl, he⟩
    exact hK _ _ he rfl
  repeat (first | (refine wpY_move0 rfl rfl (by first | exact runs0 | exact runs1 rfl) Ext.refl rfl rfl rfl ?_; apply Exists.intro; refine ⟨?_, ?_⟩; · (go_simp; rfl)) | (refine wpY_move rfl rfl (by first | exact runs0 | exact runs1 rfl) Ext.refl rfl rfl rfl (fun _ _ _ h _ => h) ?_) | (refine wpY_val rfl rfl (by first | exact runs0 | exact runs1 rfl) Ext.refl rfl ?_; apply Exists.intro; refine ⟨?_, ?_⟩; · (intro a w' hR; intro h1; (first | (have e1 : _ = _ := h1) | skip); intro h2; (first | (have e2 : _ = _ := h2) | skip); go_simp; rfl)) | (refine wpY_val rfl rfl (by first | exact runs0 | exact runs1 rfl) Ext.refl rfl ?_; apply Exists.intro; refine ⟨?_, ?_⟩; · (intro a w' hR; intro h1; (first | (have e1 : _ = _ := h1) | skip); go_simp; rfl)) | (refine wpY_val rfl rfl (by first | exact runs0 | exact runs1 rfl) Ext.refl rfl ?_; apply Exists.intro; refine ⟨?_, ?_⟩; · (intro a w' hR; go_simp; rfl)) | (refine wpY_val rfl rfl (by first | exact runs0 | exact runs1 rfl) Ext.refl rfl ?_; apply Exists.intro; refine ⟨?_, ?_⟩; · (intro a w' hR; intro h1; (first | (have e1 : _ = _ := h1) | skip); intro h2; (first | (have e2 : _ = _ := h2) | skip); intro h3; (first | (have e3 : _ = _ := h3) | skip); go_simp; rfl)) | (refine wpY_skip rfl rfl (by first | exact .inl rfl | exact .inr rfl) ?_))
  refine wpY_val rfl rfl (by first | exact runs0 | exact runs1 rfl) Ext.refl rfl ?_; apply Exists.intro; refine ⟨?_, ?_⟩
  · intro a w' hR h1
    have e1 : _ = _ := h1
    have hl := hR.cells _ _ p0
    have hl2 := hR.cells _ _ p1
    go_simp
    rfl
  refine wpY_val rfl rfl (by first | exact runs0 | exact runs1 rfl) Ext.refl rfl ?_; apply Exists.intro; refine ⟨?_, ?_⟩
  · intro a w' hR h1
    have e1 : _ = _ := h1
    have hl := hR.cells _ _ m0
    have hl2 := hR.cells _ _ m1
    go_simp
    rfl
  refine wpY_call (fun v _ => v = .int .i64 2) rfl rfl (by first | exact runs0 | exact runs1 rfl) rfl (by first | exact mono_eq | exact (fun _ _ _ h k => Rd.ext h k) | exact (fun _ _ _ h k => RB.ext h k) | exact (fun _ _ _ h k => OB.ext h k) | exact (fun _ _ _ h k => RB.extS h k) | exact (fun _ _ _ h k => Rd.ext h (GrownW.ext k)) | exact (fun _ _ _ h k => RP.ext h k) | exact (fun _ _ _ h k => OP.ext h k) | exact (fun _ _ _ h k => Rd.extV h k) | exact (fun _ _ _ h k => RB.extV h k) | exact (fun _ _ _ h k => E0.ext h k) | exact (fun _ _ _ h k => O0.ext h k) | exact (fun _ _ _ h _ => h)) ?_ ?_
  · intro a w' hR h1 h2 h3 K hK
    have e1 : _ = _ := h1
    have e2 : _ = _ := h2
    have e3 : _ = _ := h3
    go_simp
    refine (HO2.out w' gd bd (HD7.out.extM hR HGD.out HBD.out)).mono ?_
    rintro e w2 ⟨rfl, he⟩
    exact hK _ _ he rfl
  repeat (first | (refine wpY_move0 rfl rfl (by first | exact runs0 | exact runs1 rfl) Ext.refl rfl rfl rfl ?_; apply Exists.intro; refine ⟨?_, ?_⟩; · (go_simp; rfl)) | (refine wpY_move rfl rfl (by first | exact runs0 | exact runs1 rfl) Ext.refl rfl rfl rfl (fun _ _ _ h _ => h) ?_) | (refine wpY_val rfl rfl (by first | exact runs0 | exact runs1 rfl) Ext.refl rfl ?_; apply Exists.intro; refine ⟨?_, ?_⟩; · (intro a w' hR; intro h1; (first | (have e1 : _ = _ := h1) | skip); intro h2; (first | (have e2 : _ = _ := h2) | skip); go_simp; rfl)) | (refine wpY_val rfl rfl (by first | exact runs0 | exact runs1 rfl) Ext.refl rfl ?_; apply Exists.intro; refine ⟨?_, ?_⟩; · (intro a w' hR; intro h1; (first | (have e1 : _ = _ := h1) | skip); go_simp; rfl)) | (refine wpY_val rfl rfl (by first | exact runs0 | exact runs1 rfl) Ext.refl rfl ?_; apply Exists.intro; refine ⟨?_, ?_⟩; · (intro a w' hR; go_simp; rfl)) | (refine wpY_val rfl rfl (by first | exact runs0 | exact runs1 rfl) Ext.refl rfl ?_; apply Exists.intro; refine ⟨?_, ?_⟩; · (intro a w' hR; intro h1; (first | (have e1 : _ = _ := h1) | skip); intro h2; (first | (have e2 : _ = _ := h2) | skip); intro h3; (first | (have e3 : _ = _ := h3) | skip); go_simp; rfl)) | (refine wpY_skip rfl rfl (by first | exact .inl rfl | exact .inr rfl) ?_))
  refine wpY_callA (fun v _ => v = .int .i64 1) rfl rfl (by first | exact runs0 | exact runs1 rfl) rfl (by first | exact mono_eq | exact (fun _ _ _ h k => Rd.ext h k) | exact (fun _ _ _ h k => RB.ext h k) | exact (fun _ _ _ h k => OB.ext h k) | exact (fun _ _ _ h k => RB.extS h k) | exact (fun _ _ _ h k => Rd.ext h (GrownW.ext k)) | exact (fun _ _ _ h k => RP.ext h k) | exact (fun _ _ _ h k => OP.ext h k) | exact (fun _ _ _ h k => Rd.extV h k) | exact (fun _ _ _ h k => RB.extV h k) | exact (fun _ _ _ h k => E0.ext h k) | exact (fun _ _ _ h k => O0.ext h k) | exact (fun _ _ _ h _ => h)) ?_ ?_
  · intro a w' hR hS h1 K hK
    have e1 : _ = _ := h1
    go_simp
    refine (HT1.out w' g b hS).mono ?_
    rintro e w2 ⟨rfl, he⟩
    exact hK _ _ he rfl
  repeat (first | (refine wpY_move0 rfl rfl (by first | exact runs0 | exact runs1 rfl) Ext.refl rfl rfl rfl ?_; apply Exists.intro; refine ⟨?_, ?_⟩; · (go_simp; rfl)) | (refine wpY_move rfl rfl (by first | exact runs0 | exact runs1 rfl) Ext.refl rfl rfl rfl (fun _ _ _ h _ => h) ?_) | (refine wpY_val rfl rfl (by first | exact runs0 | exact runs1 rfl) Ext.refl rfl ?_; apply Exists.intro; refine ⟨?_, ?_⟩; · (intro a w' hR; intro h1; (first | (have e1 : _ = _ := h1) | skip); intro h2; (first | (have e2 : _ = _ := h2) | skip); go_simp; rfl)) | (refine wpY_val rfl rfl (by first | exact runs0 | exact runs1 rfl) Ext.refl rfl ?_; apply Exists.intro; refine ⟨?_, ?_⟩; · (intro a w' hR; intro h1; (first | (have e1 : _ = _ := h1) | skip); go_simp; rfl)) | (refine wpY_val rfl rfl (by first | exact runs0 | exact runs1 rfl) Ext.refl rfl ?_; apply Exists.intro; refine ⟨?_, ?_⟩; · (intro a w' hR; go_simp; rfl)) | (refine wpY_val rfl rfl (by first | exact runs0 | exact runs1 rfl) Ext.refl rfl ?_; apply Exists.intro; refine ⟨?_, ?_⟩; · (intro a w' hR; intro h1; (first | (have e1 : _ = _ := h1) | skip); intro h2; (first | (have e2 : _ = _ := h2) | skip); intro h3; (first | (have e3 : _ = _ := h3) | skip); go_simp; rfl)) | (refine wpY_skip rfl rfl (by first | exact .inl rfl | exact .inr rfl) ?_))
  refine wpY_call (fun v _ => v = .int .i64 3) rfl rfl (by first | exact runs0 | exact runs1 rfl) rfl (by first | exact mono_eq | exact (fun _ _ _ h k => Rd.ext h k) | exact (fun _ _ _ h k => RB.ext h k) | exact (fun _ _ _ h k => OB.ext h k) | exact (fun _ _ _ h k => RB.extS h k) | exact (fun _ _ _ h k => Rd.ext h (GrownW.ext k)) | exact (fun _ _ _ h k => RP.ext h k) | exact (fun _ _ _ h k => OP.ext h k) | exact (fun _ _ _ h k => Rd.extV h k) | exact (fun _ _ _ h k => RB.extV h k) | exact (fun _ _ _ h k => E0.ext h k) | exact (fun _ _ _ h k => O0.ext h k) | exact (fun _ _ _ h _ => h)) ?_ ?_
  · intro a w' hR h1 K hK
    have e1 : _ = _ := h1
    go_simp
    refine (HT2.out w' gd bd (HD7.out.extM hR HGD.out HBD.out)).mono ?_
    rintro e w2 ⟨rfl, he⟩
    exact hK _ _ he rfl
  repeat (first | (refine wpY_move0 rfl rfl (by first | exact runs0 | exact runs1 rfl) Ext.refl rfl rfl rfl ?_; apply Exists.intro; refine ⟨?_, ?_⟩; · (go_simp; rfl)) | (refine wpY_move rfl rfl (by first | exact runs0 | exact runs1 rfl) Ext.refl rfl rfl rfl (fun _ _ _ h _ => h) ?_) | (refine wpY_val rfl rfl (by first | exact runs0 | exact runs1 rfl) Ext.refl rfl ?_; apply Exists.intro; refine ⟨?_, ?_⟩; · (intro a w' hR; intro h1; (first | (have e1 : _ = _ := h1) | skip); intro h2; (first | (have e2 : _ = _ := h2) | skip); go_simp; rfl)) | (refine wpY_val rfl rfl (by first | exact runs0 | exact runs1 rfl) Ext.refl rfl ?_; apply Exists.intro; refine ⟨?_, ?_⟩; · (intro a w' hR; intro h1; (first | (have e1 : _ = _ := h1) | skip); go_simp; rfl)) | (refine wpY_val rfl rfl (by first | exact runs0 | exact runs1 rfl) Ext.refl rfl ?_; apply Exists.intro; refine ⟨?_, ?_⟩; · (intro a w' hR; go_simp; rfl)) | (refine wpY_val rfl rfl (by first | exact runs0 | exact runs1 rfl) Ext.refl rfl ?_; apply Exists.intro; refine ⟨?_, ?_⟩; · (intro a w' hR; intro h1; (first | (have e1 : _ = _ := h1) | skip); intro h2; (first | (have e2 : _ = _ := h2) | skip); intro h3; (first | (have e3 : _ = _ := h3) | skip); go_simp; rfl)) | (refine wpY_skip rfl rfl (by first | exact .inl rfl | exact .inr rfl) ?_))
  refine wpY_val rfl rfl (by first | exact runs0 | exact runs1 rfl) Ext.refl rfl ?_; apply Exists.intro; refine ⟨?_, ?_⟩
  · intro a w' hR h1
    have e1 : _ = _ := h1
    have hl0 := hR.cells _ _ y0
    have hl1 := hR.cells _ _ y1
    have hl2 := hR.cells _ _ y2
    have hl3 := hR.cells _ _ y3
    have hl4 := hR.cells _ _ y4
    go_simp
    rfl
  refine wpY_val rfl rfl (by first | exact runs0 | exact runs1 rfl) Ext.refl rfl ?_; apply Exists.intro; refine ⟨?_, ?_⟩
  · intro a w' hR h1
    have e1 : _ = _ := h1
    have hl := hR.cells _ _ p0
    have hl2 := hR.cells _ _ p1
    go_simp
    rfl
  refine wpY_val rfl rfl (by first | exact runs0 | exact runs1 rfl) Ext.refl rfl ?_; apply Exists.intro; refine ⟨?_, ?_⟩
  · intro a w' hR h1
    have e1 : _ = _ := h1
    have hl := hR.cells _ _ m0
    have hl2 := hR.cells _ _ m1
    go_simp
    rfl
  refine wpY_val rfl rfl (by first | exact runs0 | exact runs1 rfl) Ext.refl rfl ?_; apply Exists.intro; refine ⟨?_, ?_⟩
  · intro a w' hR h1 h2
    have e1 : _ = _ := h1
    have e2 : _ = _ := h2
    have q1 := e1; rw [Array.getD_eq_getD_getElem?] at q1
    have q2 := e2; rw [Array.getD_eq_getD_getElem?] at q2
    go_simp
    rfl
  repeat (first | (refine wpY_move0 rfl rfl (by first | exact runs0 | exact runs1 rfl) Ext.refl rfl rfl rfl ?_; apply Exists.intro; refine ⟨?_, ?_⟩; · (go_simp; rfl)) | (refine wpY_move rfl rfl (by first | exact runs0 | exact runs1 rfl) Ext.refl rfl rfl rfl (fun _ _ _ h _ => h) ?_) | (refine wpY_val rfl rfl (by first | exact runs0 | exact runs1 rfl) Ext.refl rfl ?_; apply Exists.intro; refine ⟨?_, ?_⟩; · (intro a w' hR; intro h1; (first | (have e1 : _ = _ := h1) | skip); intro h2; (first | (have e2 : _ = _ := h2) | skip); go_simp; rfl)) | (refine wpY_val rfl rfl (by first | exact runs0 | exact runs1 rfl) Ext.refl rfl ?_; apply Exists.intro; refine ⟨?_, ?_⟩; · (intro a w' hR; intro h1; (first | (have e1 : _ = _ := h1) | skip); go_simp; rfl)) | (refine wpY_val rfl rfl (by first | exact runs0 | exact runs1 rfl) Ext.refl rfl ?_; apply Exists.intro; refine ⟨?_, ?_⟩; · (intro a w' hR; go_simp; rfl)) | (refine wpY_val rfl rfl (by first | exact runs0 | exact runs1 rfl) Ext.refl rfl ?_; apply Exists.intro; refine ⟨?_, ?_⟩; · (intro a w' hR; intro h1; (first | (have e1 : _ = _ := h1) | skip); intro h2; (first | (have e2 : _ = _ := h2) | skip); intro h3; (first | (have e3 : _ = _ := h3) | skip); go_simp; rfl)) | (refine wpY_skip rfl rfl (by first | exact .inl rfl | exact .inr rfl) ?_))
  refine wpY_val rfl rfl (by first | exact runs0 | exact runs1 rfl) Ext.refl rfl ?_; apply Exists.intro; refine ⟨?_, ?_⟩
  · intro a w' hR h1
    have e1 : _ = _ := h1
    have hl := hR.cells _ _ p0
    have hl2 := hR.cells _ _ p1
    go_simp
    rfl
  refine wpY_call (fun v _ => ∃ A c, v = .slice A 1 c) rfl rfl (by first | exact runs0 | exact runs1 rfl) rfl (by first | exact mono_eq | exact (fun _ _ _ h k => Rd.ext h k) | exact (fun _ _ _ h k => RB.ext h k) | exact (fun _ _ _ h k => OB.ext h k) | exact (fun _ _ _ h k => RB.extS h k) | exact (fun _ _ _ h k => Rd.ext h (GrownW.ext k)) | exact (fun _ _ _ h k => RP.ext h k) | exact (fun _ _ _ h k => OP.ext h k) | exact (fun _ _ _ h k => Rd.extV h k) | exact (fun _ _ _ h k => RB.extV h k) | exact (fun _ _ _ h k => E0.ext h k) | exact (fun _ _ _ h k => O0.ext h k) | exact (fun _ _ _ h _ => h)) ?_ ?_
  · intro a w' hR h1 h2 K hK
    have e1 : _ = _ := h1
    have e2 : _ = _ := h2
    go_simp
    refine (HM.out w' gd bd (HD7.out.extM hR HGD.out HBD.out)).mono ?_
    rintro e w2 ⟨v9, rfl, ho9, he⟩
    exact hK _ _ he (by obtain ⟨A9, c9, h9⟩ := ho9.rp.form; exact ⟨A9, c9, h9⟩)
  refine wpY_val rfl rfl (by first | exact runs0 | exact runs1 rfl) Ext.refl rfl ?_; apply Exists.intro; refine ⟨?_, ?_⟩
  · intro a w' hR h1
    obtain ⟨A9, c9, e1⟩ := h1
    have e1 : _ = _ := e1
    go_simp
    rfl
  repeat (first | (refine wpY_move0 rfl rfl (by first | exact runs0 | exact runs1 rfl) Ext.refl rfl rfl rfl ?_; apply Exists.intro; refine ⟨?_, ?_⟩; · (go_simp; rfl)) | (refine wpY_move rfl rfl (by first | exact runs0 | exact runs1 rfl) Ext.refl rfl rfl rfl (fun _ _ _ h _ => h) ?_) | (refine wpY_val rfl rfl (by first | exact runs0 | exact runs1 rfl) Ext.refl rfl ?_; apply Exists.intro; refine ⟨?_, ?_⟩; · (intro a w' hR; intro h1; (first | (have e1 : _ = _ := h1) | skip); intro h2; (first | (have e2 : _ = _ := h2) | skip); go_simp; rfl)) | (refine wpY_val rfl rfl (by first | exact runs0 | exact runs1 rfl) Ext.refl rfl ?_; apply Exists.intro; refine ⟨?_, ?_⟩; · (intro a w' hR; intro h1; (first | (have e1 : _ = _ := h1) | skip); go_simp; rfl)) | (refine wpY_val rfl rfl (by first | exact runs0 | exact runs1 rfl) Ext.refl rfl ?_; apply Exists.intro; refine ⟨?_, ?_⟩; · (intro a w' hR; go_simp; rfl)) | (refine wpY_val rfl rfl (by first | exact runs0 | exact runs1 rfl) Ext.refl rfl ?_; apply Exists.intro; refine ⟨?_, ?_⟩; · (intro a w' hR; intro h1; (first | (have e1 : _ = _ := h1) | skip); intro h2; (first | (have e2 : _ = _ := h2) | skip); intro h3; (first | (have e3 : _ = _ := h3) | skip); go_simp; rfl)) | (refine wpY_skip rfl rfl (by first | exact .inl rfl | exact .inr rfl) ?_))
  refine wpY_val rfl rfl (by first | exact runs0 | exact runs1 rfl) Ext.refl rfl ?_; apply Exists.intro; refine ⟨?_, ?_⟩
  · intro a w' hR h1
    have e1 : _ = _ := h1
    have hl := hR.cells _ _ p0
    have hl2 := hR.cells _ _ p1
    go_simp
    rfl
  repeat (first | (refine wpY_move0 rfl rfl (by first | exact runs0 | exact runs1 rfl) Ext.refl rfl rfl rfl ?_; apply Exists.intro; refine ⟨?_, ?_⟩; · (go_simp; rfl)) | (refine wpY_move rfl rfl (by first | exact runs0 | exact runs1 rfl) Ext.refl rfl rfl rfl (fun _ _ _ h _ => h) ?_) | (refine wpY_val rfl rfl (by first | exact runs0 | exact runs1 rfl) Ext.refl rfl ?_; apply Exists.intro; refine ⟨?_, ?_⟩; · (intro a w' hR; intro h1; (first | (have e1 : _ = _ := h1) | skip); intro h2; (first | (have e2 : _ = _ := h2) | skip); go_simp; rfl)) | (refine wpY_val rfl rfl (by first | exact runs0 | exact runs1 rfl) Ext.refl rfl ?_; apply Exists.intro; refine ⟨?_, ?_⟩; · (intro a w' hR; intro h1; (first | (have e1 : _ = _ := h1) | skip); go_simp; rfl)) | (refine wpY_val rfl rfl (by first | exact runs0 | exact runs1 rfl) Ext.refl rfl ?_; apply Exists.intro; refine ⟨?_, ?_⟩; · (intro a w' hR; go_simp; rfl)) | (refine wpY_val rfl rfl (by first | exact runs0 | exact runs1 rfl) Ext.refl rfl ?_; apply Exists.intro; refine ⟨?_, ?_⟩; · (intro a w' hR; intro h1; (first | (have e1 : _ = _ := h1) | skip); intro h2; (first | (have e2 : _ = _ := h2) | skip); intro h3; (first | (have e3 : _ = _ := h3) | skip); go_simp; rfl)) | (refine wpY_skip rfl rfl (by first | exact .inl rfl | exact .inr rfl) ?_))
  refine wpY_eff (fun v _ => v = .int .i64 40) (fun w => CM w g b [(lk2, 1)]) rfl (by first | exact runs0 | exact runs1 rfl) rfl (by first | exact mono_eq | exact (fun _ _ _ h k => Rd.ext h k) | exact (fun _ _ _ h k => RB.ext h k) | exact (fun _ _ _ h k => OB.ext h k) | exact (fun _ _ _ h k => RB.extS h k) | exact (fun _ _ _ h k => Rd.ext h (GrownW.ext k)) | exact (fun _ _ _ h k => RP.ext h k) | exact (fun _ _ _ h k => OP.ext h k) | exact (fun _ _ _ h k => Rd.extV h k) | exact (fun _ _ _ h k => RB.extV h k) | exact (fun _ _ _ h k => E0.ext h k) | exact (fun _ _ _ h k => O0.ext h k) | exact (fun _ _ _ h _ => h)) (fun _ _ x y => x.ext y) ?_ ?_
  · intro a w' hR hS h1 h2 h3 K hK
    have e1 : _ = _ := h1
    have e2 : _ = _ := h2
    have e3 : _ = _ := h3
    go_simp
    refine (HA5.out w' g b hS).mono ?_
    rintro e w2 ⟨rfl, hc, he⟩
    exact hK _ _ he hc rfl
  repeat (first | (refine wpY_move0 rfl rfl (by first | exact runs0 | exact runs1 rfl) Ext.refl rfl rfl rfl ?_; apply Exists.intro; refine ⟨?_, ?_⟩; · (go_simp; rfl)) | (refine wpY_move rfl rfl (by first | exact runs0 | exact runs1 rfl) Ext.refl rfl rfl rfl (fun _ _ _ h _ => h) ?_) | (refine wpY_val rfl rfl (by first | exact runs0 | exact runs1 rfl) Ext.refl rfl ?_; apply Exists.intro; refine ⟨?_, ?_⟩; · (intro a w' hR; intro h1; (first | (have e1 : _ = _ := h1) | skip); intro h2; (first | (have e2 : _ = _ := h2) | skip); go_simp; rfl)) | (refine wpY_val rfl rfl (by first | exact runs0 | exact runs1 rfl) Ext.refl rfl ?_; apply Exists.intro; refine ⟨?_, ?_⟩; · (intro a w' hR; intro h1; (first | (have e1 : _ = _ := h1) | skip); go_simp; rfl)) | (refine wpY_val rfl rfl (by first | exact runs0 | exact runs1 rfl) Ext.refl rfl ?_; apply Exists.intro; refine ⟨?_, ?_⟩; · (intro a w' hR; go_simp; rfl)) | (refine wpY_val rfl rfl (by first | exact runs0 | exact runs1 rfl) Ext.refl rfl ?_; apply Exists.intro; refine ⟨?_, ?_⟩; · (intro a w' hR; intro h1; (first | (have e1 : _ = _ := h1) | skip); intro h2; (first | (have e2 : _ = _ := h2) | skip); intro h3; (first | (have e3 : _ = _ := h3) | skip); go_simp; rfl)) | (refine wpY_skip rfl rfl (by first | exact .inl rfl | exact .inr rfl) ?_))
  refine wpY_done ?_
  intro w8 hx8 hS8
  iterate 59 (rintro _ rfl)
  iterate 1 (intro _ hz; clear hz)
  iterate 11 (rintro _ rfl)
  dsimp only [FinV]
  go_simp
  have hx8 : ExtM b w7 w8 := hx8
  go_wp2
  go_ret
  exact ⟨rfl, HX7.out.andM hx8 HB.out⟩
end Go.Proofs.Ytngdlahgihbmhaa
