/-
  Package run: a nil run's calls.
-/
import Derived.Test.YtbokblklldphgaaRunFr
namespace Go.Proofs.Ytbokblklldphgaa
open Go.RowKit Go.Ox Go.Shelf
attribute [local irreducible] OE RE RP OP
set_option linter.unusedVariables false
set_option linter.unusedSimpArgs false

set_option maxRecDepth 100000 in
set_option maxHeartbeats 400000 in
theorem len_nil (w : World) : Calls Try.prog 13 #[.pointer none] w fun e w' => e = .returned (.int .i64 0) ∧ w = w' := by
  have HM := Lib.hid (fun w => made_nil w)
  go_enter Try.func13, Try.ntmps13
  go_wp2_with fail
  refine (HM.out _).mono ?_
  rintro e w' ⟨rfl, rfl⟩
  go_wp2
  go_ret
  exact ⟨rfl, rfl⟩
set_option maxRecDepth 100000 in
set_option maxHeartbeats 400000 in
theorem limit_nil (w : World) : Calls Try.prog 18 #[.pointer none] w fun e w' => e = .returned (.int .i64 0) ∧ w = w' := by
  have HM := Lib.hid (fun w => made_nil w)
  go_enter Try.func18, Try.ntmps18
  go_wp2_with fail
  refine (HM.out _).mono ?_
  rintro e w' ⟨rfl, rfl⟩
  go_wp2
  go_ret
  exact ⟨rfl, rfl⟩
set_option maxRecDepth 100000 in
set_option maxHeartbeats 400000 in
theorem most_nil (w : World) : Calls Try.prog 14 #[.pointer none] w fun e w' => e = .returned (.int .i64 0) ∧ w = w' := by
  have HM := Lib.hid (fun w => made_nil w)
  go_enter Try.func14, Try.ntmps14
  go_wp2_with fail
  refine (HM.out _).mono ?_
  rintro e w' ⟨rfl, rfl⟩
  go_wp2
  go_ret
  exact ⟨rfl, rfl⟩
set_option maxRecDepth 100000 in
set_option maxHeartbeats 400000 in
theorem all_nil (w : World) : Calls Try.prog 15 #[.pointer none] w fun e w' => e = .returned (.slice none 0 0) ∧ w = w' := by
  have HM := Lib.hid (fun w => made_nil w)
  go_enter Try.func15, Try.ntmps15
  go_wp2_with fail
  refine (HM.out _).mono ?_
  rintro e w' ⟨rfl, rfl⟩
  go_wp2
  go_ret
  exact ⟨rfl, rfl⟩
set_option maxRecDepth 100000 in
set_option maxHeartbeats 400000 in
theorem take_nil (w : World) : Calls Try.prog 23 #[.pointer none] w fun e w' => e = .returned (.slice none 0 0) ∧ w = w' := by
  have HM := Lib.hid (fun w => made_nil w)
  have HA := Lib.hid (fun w => all_nil w)
  go_enter Try.func23, Try.ntmps23
  go_wp2_with fail
  refine (HA.out _).mono ?_
  rintro e w' ⟨rfl, rfl⟩
  go_wp2_with fail
  refine (HM.out _).mono ?_
  rintro e w' ⟨rfl, rfl⟩
  go_wp2
  go_ret
  exact ⟨rfl, rfl⟩
set_option maxRecDepth 100000 in
set_option maxHeartbeats 400000 in
theorem keep_nil (A : Option Addr) (n c : Nat) (w : World) : Calls Try.prog 25 #[.pointer none, .slice A n c] w fun e w' => e = .returned (.int .i64 0) ∧ Ext w w' := by
  have HM := Lib.hid (fun w => made_nil w)
  have HX := Lib.hid ((Ext.refl w).alloc (.cells #[.slice A n c] 35))
  go_enter Try.func25, Try.ntmps25
  go_wp2_with fail
  refine (HM.out _).mono ?_
  rintro e w' ⟨rfl, rfl⟩
  go_wp2
  go_ret
  exact ⟨rfl, HX.out⟩
set_option maxRecDepth 100000 in
set_option maxHeartbeats 400000 in
theorem add_nil (x : Ent.E) (w : World) : Calls Try.prog 10 #[.pointer none, entV x] w fun e w' => e = .returned (.int .i64 6) ∧ Ext w w' := by
  obtain ⟨⟨x1, x2⟩, x3, x4⟩ := x
  have HM := Lib.hid (fun w => made_nil w)
  have HX := Lib.hid ((Ext.refl w).alloc (.cells #[.int .i64 x1, .int .i64 x2, .int .i64 x3, .int .i64 x4] 33))
  go_enter Try.func10, Try.ntmps10
  go_wp2_with fail
  refine (HM.out _).mono ?_
  rintro e w' ⟨rfl, rfl⟩
  go_wp2
  go_ret
  exact ⟨rfl, HX.out⟩
set_option maxRecDepth 100000 in
set_option maxHeartbeats 400000 in
theorem front_nil (w : World) : Calls Try.prog 12 #[.pointer none] w fun e w' => e = .returned (.slice none 0 0) ∧ Ext w w' := by
  have HA := Lib.hid (fun w => all_nil w)
  go_enter Try.func12, Try.ntmps12
  go_wp2_with fail
  refine (HA.out _).mono ?_
  rintro e w' ⟨rfl, rfl⟩
  go_wp2
  go_loopw [3, 9] (fun o iv wr => o = .slice none 0 0 ∧ iv = .int .i64 0 ∧ Ext w wr) (fun _ _ _ => 0)
  case atStart => exact ⟨rfl, rfl, Ext.refl _⟩
  case round =>
    obtain ⟨rfl, rfl, hext⟩ := hrel
    go_wp2
    go_ret
    exact ⟨rfl, hext⟩
set_option maxRecDepth 100000 in
set_option maxHeartbeats 2000000 in
theorem at_nil (m : Int × Int) (w : World) : Calls Try.prog 24 #[.pointer none, mV m] w fun e w' => ∃ u, e = .returned u ∧ RE w' u ([] : List Ent.E) ∧ Ext w w' := by
  obtain ⟨m1, m2⟩ := m
  have hx0 := (Ext.refl w).alloc (.cells #[.int .i64 m1, .int .i64 m2] 29)
  have HX0 := Lib.hid hx0
  have HAL := Lib.hid (fun w => all_nil w)
  have c0 : (w.alloc (.cells #[.int .i64 m1, .int .i64 m2] 29)).cell? ⟨w.heap.size, 0, none⟩ = some (.int .i64 m1) := (Blk.new w 29 #[.int .i64 m1, .int .i64 m2]).cell 0
  have c1 : (w.alloc (.cells #[.int .i64 m1, .int .i64 m2] 29)).cell? ⟨w.heap.size, 1, none⟩ = some (.int .i64 m2) := (Blk.new w 29 #[.int .i64 m1, .int .i64 m2]).cell 1
  clear hx0
  go_enter Try.func24, Try.ntmps24
  go_upto_region 1 with fail
  generalize w.heap.size = p at *
  generalize w.alloc (.cells #[.int .i64 m1, .int .i64 m2] 29) = w0 at *
  refine wp_region_tailY 4 [] [] Ext Ext (fun _ => True) (by kernel_rfl) (by kernel_rfl) (by kernel_rfl) (by kernel_rfl) (by kernel_rfl) (by kernel_rfl) (by kernel_rfl) (by rfl) (by rfl) (by kernel_rfl) (by kernel_rfl) (by kernel_rfl) (fun _ _ _ x y => x.trans y) Ext.refl (fun _ _ x => x) (Ext.refl _).drew (fun _ _ x _ => x) trivial ?_
  repeat (first | (refine wpY_move0 rfl rfl (by first | exact runs0 | exact runs1 rfl) Ext.refl rfl rfl rfl ?_; apply Exists.intro; refine ⟨?_, ?_⟩; · (go_simp; rfl)) | (refine wpY_move rfl rfl (by first | exact runs0 | exact runs1 rfl) Ext.refl rfl rfl rfl (fun _ _ _ h _ => h) ?_) | (refine wpY_val rfl rfl (by first | exact runs0 | exact runs1 rfl) Ext.refl rfl ?_; apply Exists.intro; refine ⟨?_, ?_⟩; · (intro a w' hR; intro h1; (first | (have e1 : _ = _ := h1) | skip); intro h2; (first | (have e2 : _ = _ := h2) | skip); go_simp; rfl)) | (refine wpY_val rfl rfl (by first | exact runs0 | exact runs1 rfl) Ext.refl rfl ?_; apply Exists.intro; refine ⟨?_, ?_⟩; · (intro a w' hR; intro h1; (first | (have e1 : _ = _ := h1) | skip); go_simp; rfl)) | (refine wpY_val rfl rfl (by first | exact runs0 | exact runs1 rfl) Ext.refl rfl ?_; apply Exists.intro; refine ⟨?_, ?_⟩; · (intro a w' hR; go_simp; rfl)) | (refine wpY_val rfl rfl (by first | exact runs0 | exact runs1 rfl) Ext.refl rfl ?_; apply Exists.intro; refine ⟨?_, ?_⟩; · (intro a w' hR; intro h1; (first | (have e1 : _ = _ := h1) | skip); intro h2; (first | (have e2 : _ = _ := h2) | skip); intro h3; (first | (have e3 : _ = _ := h3) | skip); go_simp; rfl)) | (refine wpY_skip rfl rfl (by first | exact .inl rfl | exact .inr rfl) ?_))
  refine wpY_call (fun v w2 => v = .slice none 0 0) rfl rfl (by first | exact runs0 | exact runs1 rfl) rfl (by first | exact mono_eq | exact (fun _ _ _ h k => Rd.ext h k) | exact (fun _ _ _ h k => RB.ext h k) | exact (fun _ _ _ h k => OB.ext h k) | exact (fun _ _ _ h k => RB.extS h k) | exact (fun _ _ _ h k => Rd.ext h (GrownW.ext k)) | exact (fun _ _ _ h k => RP.ext h k) | exact (fun _ _ _ h k => OP.ext h k) | exact (fun _ _ _ h k => Rd.extV h k) | exact (fun _ _ _ h k => RB.extV h k) | exact (fun _ _ _ h k => E0.ext h k) | exact (fun _ _ _ h k => O0.ext h k) | exact (fun _ _ _ h k => RE.ext h k) | exact (fun _ _ _ h k => RE.extD h k) | exact (fun _ _ _ h _ => h) | exact (fun _ _ _ ⟨n, h1, h2⟩ k => ⟨n, h1, k.st _ _ h2⟩)) ?_ ?_
  · intro a w' hR h1 K hK
    have e1 : _ = _ := h1
    go_simp
    refine ((HAL.out _)).mono ?_
    rintro e w2 ⟨rfl, rfl⟩
    exact hK _ _ (Ext.refl _) rfl
  refine wpY_val rfl rfl (by first | exact runs0 | exact runs1 rfl) Ext.refl rfl ?_; apply Exists.intro; refine ⟨?_, ?_⟩
  · intro a w' hR h1
    have e1 : _ = _ := h1
    have hl0 := hR.cell c0
    have hl1 := hR.cell c1
    go_simp
    rfl
  repeat (first | (refine wpY_move0 rfl rfl (by first | exact runs0 | exact runs1 rfl) Ext.refl rfl rfl rfl ?_; apply Exists.intro; refine ⟨?_, ?_⟩; · (go_simp; rfl)) | (refine wpY_move rfl rfl (by first | exact runs0 | exact runs1 rfl) Ext.refl rfl rfl rfl (fun _ _ _ h _ => h) ?_) | (refine wpY_val rfl rfl (by first | exact runs0 | exact runs1 rfl) Ext.refl rfl ?_; apply Exists.intro; refine ⟨?_, ?_⟩; · (intro a w' hR; intro h1; (first | (have e1 : _ = _ := h1) | skip); intro h2; (first | (have e2 : _ = _ := h2) | skip); go_simp; rfl)) | (refine wpY_val rfl rfl (by first | exact runs0 | exact runs1 rfl) Ext.refl rfl ?_; apply Exists.intro; refine ⟨?_, ?_⟩; · (intro a w' hR; intro h1; (first | (have e1 : _ = _ := h1) | skip); go_simp; rfl)) | (refine wpY_val rfl rfl (by first | exact runs0 | exact runs1 rfl) Ext.refl rfl ?_; apply Exists.intro; refine ⟨?_, ?_⟩; · (intro a w' hR; go_simp; rfl)) | (refine wpY_val rfl rfl (by first | exact runs0 | exact runs1 rfl) Ext.refl rfl ?_; apply Exists.intro; refine ⟨?_, ?_⟩; · (intro a w' hR; intro h1; (first | (have e1 : _ = _ := h1) | skip); intro h2; (first | (have e2 : _ = _ := h2) | skip); intro h3; (first | (have e3 : _ = _ := h3) | skip); go_simp; rfl)) | (refine wpY_skip rfl rfl (by first | exact .inl rfl | exact .inr rfl) ?_))
  refine wpY_done ?_
  intro w3 hx3 hS
  iterate 1 (rintro _ rfl)
  rintro v6 h6
  iterate 2 (rintro _ rfl)
  dsimp only [FinV]
  go_simp
  have hx3 : Ext w0 w3 := hx3
  subst h6
  simp only [thenTail, List.drop_succ_cons, List.drop_zero]
  have HON := Lib.hid (only_any (fun x => decide (x.1 = (m1, m2))) 38 #[mV (m1, m2)] #[] (.slice none 0 0) ([] : List Ent.E) w3.heap.size (w3.heap.size + 1) w3 (OE.nilS _ _ _) (fun k hk => by cases hk) (by omega) (by simp) (fun x q W hc _ => only1_is (m1, m2) q x W hc))
  have HX3 := Lib.hid (HX0.out.trans hx3)
  clear hx3 hS c0 c1
  go_wp2_with fail
  refine HON.out.mono ?_
  rintro e w4 ⟨v', rfl, ho', -, hx4⟩
  go_wp2
  go_ret
  exact ⟨_, rfl, ho'.re, HX3.out.andQ hx4 fun k hk => by have := HX3.out.size; omega⟩
end Go.Proofs.Ytbokblklldphgaa
