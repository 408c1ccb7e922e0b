/-
  The statements of layer 4: MomentWalks.
-/
import Derived.Test.YtbcbhcohfbkijaaMomLives
namespace Go.Proofs.Ytbcbhcohfbkijaa
open Go.RowKit Go.Ox Go.Shelf
attribute [local irreducible] OP RP OB RB
set_option linter.unusedSimpArgs false
set_option linter.unusedVariables false

theorem then_walk {v w : W} {m : Mom.M} (h1 : (thenW v w).2 = 0) (h2 : (walkM v m).2 = 0) : walkM w (walkM v m).1 = walkM (thenW v w).1 m := by
  obtain ⟨s, a⟩ := v
  obtain ⟨t, b⟩ := w
  obtain ⟨x, y⟩ := m
  unfold thenW at *
  unfold walkM at *
  cases ha : okW (s, a) with
  | false => simp [ha] at h2
  | true =>
  cases hb : okW (t, b) with
  | false => simp [hb] at h1
  | true =>
  cases hm : Mom.ok (x, y) with
  | false => simp [ha, hm] at h2
  | true =>
  cases hs : Mom.ok (stepM (s, a) (x, y)) with
  | false => simp [ha, hm, hs] at h2
  | true =>
  cases hq : okW (bothW (s, a) (t, b)) with
  | false => simp [ha, hb, hq] at h1
  | true =>
  have e : stepM (t, b) (stepM (s, a) (x, y)) = stepM (bothW (s, a) (t, b)) (x, y) := by
    unfold stepM bothW
    cases t <;> cases s <;> simp <;> omega
  simp [e, hs, hb, hm, hq]
theorem then_code (v w : W) : (thenW v w).2 = 0 ∨ (thenW v w).2 = 1 := by
  unfold thenW
  split
  · exact .inr rfl
  · split
    · exact .inr rfl
    · exact .inl rfl

/-- the boxes of MomentWalks -/
structure Wk (w : World) (n p7 p9 p11 p13 : Nat) (v u : W) (m x : Mom.M) (t : W) : Prop where
  f : F3 w n 41 41 23 (.bool v.1) (.int .i64 v.2) (.bool u.1) (.int .i64 u.2) (.int .i64 m.1) (.int .i64 m.2)
  b7 : Blk w p7 23 #[.int .i64 x.1, .int .i64 x.2]
  b9 : Blk w p9 23 #[.int .i64 x.1, .int .i64 x.2]
  b11 : Blk w p11 41 #[.bool t.1, .int .i64 t.2]
  b13 : Blk w p13 41 #[.bool t.1, .int .i64 t.2]
section
variable {w w' : World} {n p7 p9 p11 p13 : Nat} {v u t : W} {m x : Mom.M}
theorem Wk.ext (h : Wk w n p7 p9 p11 p13 v u m x t) (he : Ext w w') : Wk w' n p7 p9 p11 p13 v u m x t := ⟨h.f.ext he, h.b7.ext he, h.b9.ext he, h.b11.ext he, h.b13.ext he⟩
theorem Wk.cells (h : Wk w n p7 p9 p11 p13 v u m x t) : w.cell? ⟨n, 0, none⟩ = some (.bool v.1) ∧ w.cell? ⟨n, 1, none⟩ = some (.int .i64 v.2) ∧ w.cell? ⟨n + 1, 0, none⟩ = some (.bool u.1) ∧ w.cell? ⟨n + 1, 1, none⟩ = some (.int .i64 u.2) ∧
    w.cell? ⟨n + 1 + 1, 0, none⟩ = some (.int .i64 m.1) ∧ w.cell? ⟨n + 1 + 1, 1, none⟩ = some (.int .i64 m.2) := h.f.cells
theorem Wk.more (h : Wk w n p7 p9 p11 p13 v u m x t) : w.cell? ⟨p7, 0, none⟩ = some (.int .i64 x.1) ∧ w.cell? ⟨p7, 1, none⟩ = some (.int .i64 x.2) ∧ w.cell? ⟨p9, 0, none⟩ = some (.int .i64 x.1) ∧ w.cell? ⟨p9, 1, none⟩ = some (.int .i64 x.2) ∧
    w.cell? ⟨p11, 0, none⟩ = some (.bool t.1) ∧ w.cell? ⟨p11, 1, none⟩ = some (.int .i64 t.2) ∧ w.cell? ⟨p13, 0, none⟩ = some (.bool t.1) ∧ w.cell? ⟨p13, 1, none⟩ = some (.int .i64 t.2) :=
  ⟨h.b7.cell 0, h.b7.cell 1, h.b9.cell 0, h.b9.cell 1, h.b11.cell 0, h.b11.cell 1, h.b13.cell 0, h.b13.cell 1⟩
end

set_option maxRecDepth 100000 in
set_option maxHeartbeats 2000000 in
theorem walks_a (v u : W) (m x : Mom.M) (xe : Int) (t : W) (w : World) (h1 : walkM v m = (x, xe)) (h2 : thenW v u = (t, 1)) :
    Calls Try.prog 7 #[wV v, wV u, mV m] w fun e w' => e = .returned (.bool true) ∧ Ext w w' := by
  have H1 := Lib.hid (fun w => walk_any v m w)
  have H2 := Lib.hid (fun w => rwalk_any v m w)
  have H3 := Lib.hid (fun w => then_any v u w)
  have H4 := Lib.hid (fun w => rthen_any v u w)
  rw [h1] at H1 H2
  rw [h2] at H3 H4
  rw [show decide ((1 : Int) = 0) = false by decide] at H4
  have qx : (xe != xe) = false := by simp
  have hE := eqInM
  have hG := guardM
  have hE2 := eqInW
  have hG2 := guardW
  have HW := Lib.hid (F3.new w 41 41 23 (.bool v.1) (.int .i64 v.2) (.bool u.1) (.int .i64 u.2) (.int .i64 m.1) (.int .i64 m.2))
  have HX := Lib.hid ((((Ext.refl w).alloc (.cells #[.bool v.1, .int .i64 v.2] 41)).alloc (.cells #[.bool u.1, .int .i64 u.2] 41)).alloc (.cells #[.int .i64 m.1, .int .i64 m.2] 23))
  clear h1 h2
  obtain ⟨v1, v2⟩ := v
  obtain ⟨u1, u2⟩ := u
  obtain ⟨m1, m2⟩ := m
  obtain ⟨x1, x2⟩ := x
  obtain ⟨t1, t2⟩ := t
  have qp : pairB x1 x2 x1 x2 = true := pairB_t rfl
  have qw : wayB t1 t1 t2 t2 = true := by unfold wayB; simp
  have E7 := Lib.hid (fun W : World => (Ext.refl W).alloc (.cells #[.int .i64 x1, .int .i64 x2] 23))
  have E11 := Lib.hid (fun W : World => (Ext.refl W).alloc (.cells #[.bool t1, .int .i64 t2] 41))
  obtain ⟨c0, c1, c2, c3, c4, c5⟩ := HW.out.cells
  go_enter Try.func7, Try.ntmps7
  go_wp2_with fail
  refine (H1.out _).mono ?_
  rintro e w1 ⟨rfl, he1⟩
  have HB7 := Lib.hid (Blk.new w1 23 #[.int .i64 x1, .int .i64 x2])
  have HW1 := Lib.hid ((HW.out.ext he1).ext (E7.out w1))
  have HX1 := Lib.hid ((HX.out.trans he1).trans (E7.out w1))
  clear HW HX he1 c0 c1 c2 c3 c4 c5
  obtain ⟨c0, c1, c2, c3, c4, c5⟩ := HW1.out.cells
  go_wp2_with fail
  refine (H2.out _).mono ?_
  rintro e w2 ⟨rfl, he2⟩
  have HB9 := Lib.hid (Blk.new w2 23 #[.int .i64 x1, .int .i64 x2])
  have HC7 := Lib.hid ((HB7.out.ext he2).ext (E7.out w2))
  have HW2 := Lib.hid ((HW1.out.ext he2).ext (E7.out w2))
  have HX2 := Lib.hid ((HX1.out.trans he2).trans (E7.out w2))
  clear HW1 HX1 he2 HB7 c0 c1 c2 c3 c4 c5
  obtain ⟨c0, c1, c2, c3, c4, c5⟩ := HW2.out.cells
  go_wp2_with fail
  refine (H3.out _).mono ?_
  rintro e w3 ⟨rfl, he3⟩
  have HB11 := Lib.hid (Blk.new w3 41 #[.bool t1, .int .i64 t2])
  have HD7 := Lib.hid ((HC7.out.ext he3).ext (E11.out w3))
  have HC9 := Lib.hid ((HB9.out.ext he3).ext (E11.out w3))
  have HW3 := Lib.hid ((HW2.out.ext he3).ext (E11.out w3))
  have HX3 := Lib.hid ((HX2.out.trans he3).trans (E11.out w3))
  clear HW2 HX2 he3 HC7 HB9 c0 c1 c2 c3 c4 c5
  obtain ⟨c0, c1, c2, c3, c4, c5⟩ := HW3.out.cells
  go_wp2_with fail
  refine (H4.out _).mono ?_
  rintro e w4 ⟨rfl, he4⟩
  have HK4 := Lib.hid (Wk.mk (v := (v1, v2)) (u := (u1, u2)) (m := (m1, m2)) (x := (x1, x2)) (t := (t1, t2)) ((HW3.out.ext he4).ext (E11.out w4)) ((HD7.out.ext he4).ext (E11.out w4)) ((HC9.out.ext he4).ext (E11.out w4)) ((HB11.out.ext he4).ext (E11.out w4)) (Blk.new w4 41 #[.bool t1, .int .i64 t2]))
  have HX4 := Lib.hid ((HX3.out.trans he4).trans (E11.out w4))
  clear HW3 HX3 he4 HD7 HC9 HB11 c0 c1 c2 c3 c4 c5
  go_wp2_with fail
  refine (lives_any _).mono ?_
  rintro e w5 ⟨rfl, he5⟩
  have HK5 := Lib.hid (HK4.out.ext he5)
  have HX5 := Lib.hid (HX4.out.trans he5)
  clear HK4 HX4 he5
  obtain ⟨c0, c1, c2, c3, c4, c5⟩ := HK5.out.cells
  obtain ⟨d0, d1, d2, d3, d4, d5, d6, d7⟩ := HK5.out.more
  dsimp only at c0 c1 c2 c3 c4 c5 d0 d1 d2 d3 d4 d5 d6 d7
  go_wp2_with fail
  go_ret
  exact ⟨rfl, HX5.out⟩

set_option maxRecDepth 100000 in
set_option maxHeartbeats 2000000 in
theorem walks_b (v u : W) (m x : Mom.M) (xe : Int) (t : W) (w : World) (h1 : walkM v m = (x, xe)) (h2 : thenW v u = (t, 0)) (hx : (xe != 0) = true) :
    Calls Try.prog 7 #[wV v, wV u, mV m] w fun e w' => e = .returned (.bool true) ∧ Ext w w' := by
  have H1 := Lib.hid (fun w => walk_any v m w)
  have H2 := Lib.hid (fun w => rwalk_any v m w)
  have H3 := Lib.hid (fun w => then_any v u w)
  have H4 := Lib.hid (fun w => rthen_any v u w)
  rw [h1] at H1 H2
  rw [h2] at H3 H4
  rw [show decide ((0 : Int) = 0) = true by decide] at H4
  have qx : (xe != xe) = false := by simp
  have hE := eqInM
  have hG := guardM
  have hE2 := eqInW
  have hG2 := guardW
  have HW := Lib.hid (F3.new w 41 41 23 (.bool v.1) (.int .i64 v.2) (.bool u.1) (.int .i64 u.2) (.int .i64 m.1) (.int .i64 m.2))
  have HX := Lib.hid ((((Ext.refl w).alloc (.cells #[.bool v.1, .int .i64 v.2] 41)).alloc (.cells #[.bool u.1, .int .i64 u.2] 41)).alloc (.cells #[.int .i64 m.1, .int .i64 m.2] 23))
  clear h1 h2
  obtain ⟨v1, v2⟩ := v
  obtain ⟨u1, u2⟩ := u
  obtain ⟨m1, m2⟩ := m
  obtain ⟨x1, x2⟩ := x
  obtain ⟨t1, t2⟩ := t
  have qp : pairB x1 x2 x1 x2 = true := pairB_t rfl
  have qw : wayB t1 t1 t2 t2 = true := by unfold wayB; simp
  have E7 := Lib.hid (fun W : World => (Ext.refl W).alloc (.cells #[.int .i64 x1, .int .i64 x2] 23))
  have E11 := Lib.hid (fun W : World => (Ext.refl W).alloc (.cells #[.bool t1, .int .i64 t2] 41))
  obtain ⟨c0, c1, c2, c3, c4, c5⟩ := HW.out.cells
  go_enter Try.func7, Try.ntmps7
  go_wp2_with fail
  refine (H1.out _).mono ?_
  rintro e w1 ⟨rfl, he1⟩
  have HB7 := Lib.hid (Blk.new w1 23 #[.int .i64 x1, .int .i64 x2])
  have HW1 := Lib.hid ((HW.out.ext he1).ext (E7.out w1))
  have HX1 := Lib.hid ((HX.out.trans he1).trans (E7.out w1))
  clear HW HX he1 c0 c1 c2 c3 c4 c5
  obtain ⟨c0, c1, c2, c3, c4, c5⟩ := HW1.out.cells
  go_wp2_with fail
  refine (H2.out _).mono ?_
  rintro e w2 ⟨rfl, he2⟩
  have HB9 := Lib.hid (Blk.new w2 23 #[.int .i64 x1, .int .i64 x2])
  have HC7 := Lib.hid ((HB7.out.ext he2).ext (E7.out w2))
  have HW2 := Lib.hid ((HW1.out.ext he2).ext (E7.out w2))
  have HX2 := Lib.hid ((HX1.out.trans he2).trans (E7.out w2))
  clear HW1 HX1 he2 HB7 c0 c1 c2 c3 c4 c5
  obtain ⟨c0, c1, c2, c3, c4, c5⟩ := HW2.out.cells
  go_wp2_with fail
  refine (H3.out _).mono ?_
  rintro e w3 ⟨rfl, he3⟩
  have HB11 := Lib.hid (Blk.new w3 41 #[.bool t1, .int .i64 t2])
  have HD7 := Lib.hid ((HC7.out.ext he3).ext (E11.out w3))
  have HC9 := Lib.hid ((HB9.out.ext he3).ext (E11.out w3))
  have HW3 := Lib.hid ((HW2.out.ext he3).ext (E11.out w3))
  have HX3 := Lib.hid ((HX2.out.trans he3).trans (E11.out w3))
  clear HW2 HX2 he3 HC7 HB9 c0 c1 c2 c3 c4 c5
  obtain ⟨c0, c1, c2, c3, c4, c5⟩ := HW3.out.cells
  go_wp2_with fail
  refine (H4.out _).mono ?_
  rintro e w4 ⟨rfl, he4⟩
  have HK4 := Lib.hid (Wk.mk (v := (v1, v2)) (u := (u1, u2)) (m := (m1, m2)) (x := (x1, x2)) (t := (t1, t2)) ((HW3.out.ext he4).ext (E11.out w4)) ((HD7.out.ext he4).ext (E11.out w4)) ((HC9.out.ext he4).ext (E11.out w4)) ((HB11.out.ext he4).ext (E11.out w4)) (Blk.new w4 41 #[.bool t1, .int .i64 t2]))
  have HX4 := Lib.hid ((HX3.out.trans he4).trans (E11.out w4))
  clear HW3 HX3 he4 HD7 HC9 HB11 c0 c1 c2 c3 c4 c5
  go_wp2_with fail
  refine (lives_any _).mono ?_
  rintro e w5 ⟨rfl, he5⟩
  have HK5 := Lib.hid (HK4.out.ext he5)
  have HX5 := Lib.hid (HX4.out.trans he5)
  clear HK4 HX4 he5
  obtain ⟨c0, c1, c2, c3, c4, c5⟩ := HK5.out.cells
  obtain ⟨d0, d1, d2, d3, d4, d5, d6, d7⟩ := HK5.out.more
  dsimp only at c0 c1 c2 c3 c4 c5 d0 d1 d2 d3 d4 d5 d6 d7
  go_wp2_with fail
  go_ret
  exact ⟨rfl, HX5.out⟩

set_option maxRecDepth 100000 in
set_option maxHeartbeats 2000000 in
theorem walks_c (v u : W) (m x : Mom.M) (xe : Int) (t : W) (p : Mom.M) (pe : Int) (w : World) (h1 : walkM v m = (x, xe)) (h2 : thenW v u = (t, 0)) (hx : xe = 0) (h3 : walkM u x = (p, pe)) (h4 : walkM t m = (p, pe)) :
    Calls Try.prog 7 #[wV v, wV u, mV m] w fun e w' => e = .returned (.bool true) ∧ Ext w w' := by
  have H1 := Lib.hid (fun w => walk_any v m w)
  have H2 := Lib.hid (fun w => rwalk_any v m w)
  have H3 := Lib.hid (fun w => then_any v u w)
  have H4 := Lib.hid (fun w => rthen_any v u w)
  rw [h1] at H1 H2
  rw [h2] at H3 H4
  rw [show decide ((0 : Int) = 0) = true by decide] at H4
  have qx : (xe != xe) = false := by simp
  subst hx
  have H5 := Lib.hid (fun w => walk_any u x w)
  have H6 := Lib.hid (fun w => walk_any t m w)
  rw [h3] at H5
  rw [h4] at H6
  clear h3 h4
  obtain ⟨p1, p2⟩ := p
  have qr : pairB p1 p2 p1 p2 = true := pairB_t rfl
  have E15 := Lib.hid (fun W : World => (Ext.refl W).alloc (.cells #[.int .i64 p1, .int .i64 p2] 23))
  have hE := eqInM
  have hG := guardM
  have hE2 := eqInW
  have hG2 := guardW
  have HW := Lib.hid (F3.new w 41 41 23 (.bool v.1) (.int .i64 v.2) (.bool u.1) (.int .i64 u.2) (.int .i64 m.1) (.int .i64 m.2))
  have HX := Lib.hid ((((Ext.refl w).alloc (.cells #[.bool v.1, .int .i64 v.2] 41)).alloc (.cells #[.bool u.1, .int .i64 u.2] 41)).alloc (.cells #[.int .i64 m.1, .int .i64 m.2] 23))
  clear h1 h2
  obtain ⟨v1, v2⟩ := v
  obtain ⟨u1, u2⟩ := u
  obtain ⟨m1, m2⟩ := m
  obtain ⟨x1, x2⟩ := x
  obtain ⟨t1, t2⟩ := t
  have qp : pairB x1 x2 x1 x2 = true := pairB_t rfl
  have qw : wayB t1 t1 t2 t2 = true := by unfold wayB; simp
  have E7 := Lib.hid (fun W : World => (Ext.refl W).alloc (.cells #[.int .i64 x1, .int .i64 x2] 23))
  have E11 := Lib.hid (fun W : World => (Ext.refl W).alloc (.cells #[.bool t1, .int .i64 t2] 41))
  obtain ⟨c0, c1, c2, c3, c4, c5⟩ := HW.out.cells
  go_enter Try.func7, Try.ntmps7
  go_wp2_with fail
  refine (H1.out _).mono ?_
  rintro e w1 ⟨rfl, he1⟩
  have HB7 := Lib.hid (Blk.new w1 23 #[.int .i64 x1, .int .i64 x2])
  have HW1 := Lib.hid ((HW.out.ext he1).ext (E7.out w1))
  have HX1 := Lib.hid ((HX.out.trans he1).trans (E7.out w1))
  clear HW HX he1 c0 c1 c2 c3 c4 c5
  obtain ⟨c0, c1, c2, c3, c4, c5⟩ := HW1.out.cells
  go_wp2_with fail
  refine (H2.out _).mono ?_
  rintro e w2 ⟨rfl, he2⟩
  have HB9 := Lib.hid (Blk.new w2 23 #[.int .i64 x1, .int .i64 x2])
  have HC7 := Lib.hid ((HB7.out.ext he2).ext (E7.out w2))
  have HW2 := Lib.hid ((HW1.out.ext he2).ext (E7.out w2))
  have HX2 := Lib.hid ((HX1.out.trans he2).trans (E7.out w2))
  clear HW1 HX1 he2 HB7 c0 c1 c2 c3 c4 c5
  obtain ⟨c0, c1, c2, c3, c4, c5⟩ := HW2.out.cells
  go_wp2_with fail
  refine (H3.out _).mono ?_
  rintro e w3 ⟨rfl, he3⟩
  have HB11 := Lib.hid (Blk.new w3 41 #[.bool t1, .int .i64 t2])
  have HD7 := Lib.hid ((HC7.out.ext he3).ext (E11.out w3))
  have HC9 := Lib.hid ((HB9.out.ext he3).ext (E11.out w3))
  have HW3 := Lib.hid ((HW2.out.ext he3).ext (E11.out w3))
  have HX3 := Lib.hid ((HX2.out.trans he3).trans (E11.out w3))
  clear HW2 HX2 he3 HC7 HB9 c0 c1 c2 c3 c4 c5
  obtain ⟨c0, c1, c2, c3, c4, c5⟩ := HW3.out.cells
  go_wp2_with fail
  refine (H4.out _).mono ?_
  rintro e w4 ⟨rfl, he4⟩
  have HK4 := Lib.hid (Wk.mk (v := (v1, v2)) (u := (u1, u2)) (m := (m1, m2)) (x := (x1, x2)) (t := (t1, t2)) ((HW3.out.ext he4).ext (E11.out w4)) ((HD7.out.ext he4).ext (E11.out w4)) ((HC9.out.ext he4).ext (E11.out w4)) ((HB11.out.ext he4).ext (E11.out w4)) (Blk.new w4 41 #[.bool t1, .int .i64 t2]))
  have HX4 := Lib.hid ((HX3.out.trans he4).trans (E11.out w4))
  clear HW3 HX3 he4 HD7 HC9 HB11 c0 c1 c2 c3 c4 c5
  go_wp2_with fail
  refine (lives_any _).mono ?_
  rintro e w5 ⟨rfl, he5⟩
  have HK5 := Lib.hid (HK4.out.ext he5)
  have HX5 := Lib.hid (HX4.out.trans he5)
  clear HK4 HX4 he5
  obtain ⟨c0, c1, c2, c3, c4, c5⟩ := HK5.out.cells
  obtain ⟨d0, d1, d2, d3, d4, d5, d6, d7⟩ := HK5.out.more
  dsimp only at c0 c1 c2 c3 c4 c5 d0 d1 d2 d3 d4 d5 d6 d7
  go_wp2_with fail
  refine (H5.out _).mono ?_
  rintro e w6 ⟨rfl, he6⟩
  have HB15 := Lib.hid (Blk.new w6 23 #[.int .i64 p1, .int .i64 p2])
  have HK6 := Lib.hid ((HK5.out.ext he6).ext (E15.out w6))
  have HX6 := Lib.hid ((HX5.out.trans he6).trans (E15.out w6))
  clear HK5 HX5 he6 c0 c1 c2 c3 c4 c5 d0 d1 d2 d3 d4 d5 d6 d7
  obtain ⟨c0, c1, c2, c3, c4, c5⟩ := HK6.out.cells
  obtain ⟨d0, d1, d2, d3, d4, d5, d6, d7⟩ := HK6.out.more
  dsimp only at c0 c1 c2 c3 c4 c5 d0 d1 d2 d3 d4 d5 d6 d7
  go_wp2_with fail
  refine (H6.out _).mono ?_
  rintro e w7 ⟨rfl, he7⟩
  have HC15 := Lib.hid ((HB15.out.ext he7).ext (E15.out w7))
  have f0 := HC15.out.cell 0
  have f1 := HC15.out.cell 1
  have HB17 := Lib.hid (Blk.new w7 23 #[.int .i64 p1, .int .i64 p2])
  have f2 := HB17.out.cell 0
  have f3 := HB17.out.cell 1
  clear c0 c1 c2 c3 c4 c5 d0 d1 d2 d3 d4 d5 d6 d7
  go_wp2_with fail
  go_ret
  exact ⟨rfl, (HX6.out.trans he7).trans (E15.out w7)⟩

theorem walks_any (v u : W) (m : Mom.M) (w : World) :
    Calls Try.prog 7 #[wV v, wV u, mV m] w fun e w' => e = .returned (.bool true) ∧ Ext w w' := by
  rcases then_code v u with ht | ht
  · by_cases hx : (walkM v m).2 = 0
    · exact walks_c v u m (walkM v m).1 _ (thenW v u).1 _ _ w rfl (by rw [← ht]) hx rfl (then_walk ht hx).symm
    · exact walks_b v u m (walkM v m).1 _ (thenW v u).1 w rfl (by rw [← ht]) (by rw [bne_iff_ne]; exact hx)
  · exact walks_a v u m (walkM v m).1 _ (thenW v u).1 w rfl (by rw [← ht])
theorem momentWalks_law (w : World) (v : Value) (a : Bool × Int) (hv : v = .agg #[.bool a.1, .int .i64 a.2]) (u : Value) (b : Bool × Int) (hu : u = .agg #[.bool b.1, .int .i64 b.2]) (x : Value) (m : Mom.M) (hx : x = mV m) :
    Calls Try.prog 7 #[v, u, x] w fun e w' => e = .returned (.bool true) ∧ Ext w w' := by
  subst hv hu hx
  exact walks_any a b m w
end Go.Proofs.Ytbcbhcohfbkijaa
