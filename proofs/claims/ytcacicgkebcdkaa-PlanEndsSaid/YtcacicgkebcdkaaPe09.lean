/-
  PlCmp, packed: what the claim needs of them.
-/
import Derived.Test.YtcacicgkebcdkaaPe08
import Derived.Test.YtcacicgkebcdkaaPe07
import Derived.Test.YtcacicgkebcdkaaPe05
import Derived.Test.YtcacicgkebcdkaaPe01
set_option linter.unusedSimpArgs false
set_option linter.unusedVariables false
set_option maxRecDepth 100000
namespace Go.Ox.Pl
end Go.Ox.Pl
namespace Go.Proofs.Ytcacicgkebcdkaa
open Go.RowKit Go.Ox Go.Shelf Go.Sort Mo
theorem box6 (w : World) (T : TypeId) (a b c d e f a' b' c' d' e' f' : Value) : ∃ w2, w2 = (w.alloc (.cells #[a, b, c, d, e, f] T)).alloc (.cells #[a', b', c', d', e', f'] T) ∧ GrownW w w2 ∧
    w2.cell? ⟨w.heap.size, 0, none⟩ = some a ∧ w2.cell? ⟨w.heap.size, 1, none⟩ = some b ∧ w2.cell? ⟨w.heap.size, 2, none⟩ = some c ∧ w2.cell? ⟨w.heap.size, 3, none⟩ = some d ∧
    w2.cell? ⟨w.heap.size + 1, 0, none⟩ = some a' ∧ w2.cell? ⟨w.heap.size + 1, 1, none⟩ = some b' ∧ w2.cell? ⟨w.heap.size + 1, 2, none⟩ = some c' ∧ w2.cell? ⟨w.heap.size + 1, 3, none⟩ = some d' := by
  have h1 := (Blk.new w T #[a, b, c, d, e, f]).ext ((Ext.refl _).alloc (.cells #[a', b', c', d', e', f'] T))
  have h2 := Blk.new (w.alloc (.cells #[a, b, c, d, e, f] T)) T #[a', b', c', d', e', f']
  have hs : (w.alloc (.cells #[a, b, c, d, e, f] T)).heap.size = w.heap.size + 1 := by simp
  rw [hs] at h2
  exact ⟨_, rfl, ((GrownW.refl _).alloc _).alloc _, h1.cell 0, h1.cell 1, h1.cell 2, h1.cell 3, h2.cell 0, h2.cell 1, h2.cell 2, h2.cell 3⟩
set_option maxHeartbeats 1000000 in
theorem order_grown (a b : Mom.M) (w : World) : Calls Try.prog 34 #[mV a, mV b] w fun e w' => e = .returned (.int .i64 (Mom.cmp a b)) ∧ GrownW w w' := by
  have HC := Lib.hid (cmpOr a b)
  obtain ⟨a1, a2⟩ := a
  obtain ⟨b1, b2⟩ := b
  dsimp only at *
  go_enter Try.func34, Try.ntmps34
  go_wp2
  have hb := boxes2 w 26 26 (.int .i64 a1) (.int .i64 a2) (.int .i64 b1) (.int .i64 b2)
  obtain ⟨c1, c2, c3, c4⟩ := hb
  generalize hw2 : ((w.alloc (.cells #[.int .i64 a1, .int .i64 a2] 26)).alloc (.cells #[.int .i64 b1, .int .i64 b2] 26)) = w2 at *
  have hx : GrownW w w2 := by rw [← hw2]; exact ((GrownW.refl _).alloc _).alloc _
  clear hw2
  refine wp_regionY [] [] GrownW GrownW (fun _ => True) (by kernel_rfl) (by rfl) (by rfl) (by kernel_rfl) (by kernel_rfl) (by kernel_rfl) (fun _ _ _ x y => x.trans y) GrownW.refl (fun _ _ x => x) (GrownW.refl _).drew (fun _ _ x _ => x) trivial ?_
  repeat (first | (refine wpY_move0 rfl rfl (by first | exact runs0 | exact runs1 rfl) GrownW.refl rfl rfl rfl ?_; apply Exists.intro; refine ⟨?_, ?_⟩; · (go_simp; rfl)) | (refine wpY_move rfl rfl (by first | exact runs0 | exact runs1 rfl) GrownW.refl rfl rfl rfl (fun _ _ _ h _ => h) ?_) | (refine wpY_val rfl rfl (by first | exact runs0 | exact runs1 rfl) GrownW.refl rfl ?_; apply Exists.intro; refine ⟨?_, ?_⟩; · (intro a w' hR; (try (intro h1; try have e1 : _ = _ := h1)); (try (intro h2; try have e2 : _ = _ := h2)); (try (intro h3; try have e3 : _ = _ := h3)); go_simp; rfl)) | (refine wpY_skip rfl rfl (by first | exact .inl rfl | exact .inr rfl) ?_))
  refine wpY_val rfl rfl (by first | exact runs0 | exact runs1 rfl) GrownW.refl rfl ?_; apply Exists.intro; refine ⟨?_, ?_⟩
  · intro a w' hR h1
    have e1 : _ = _ := h1
    have hl := hR.ext.cell c1
    go_simp
    rfl
  repeat (first | (refine wpY_move0 rfl rfl (by first | exact runs0 | exact runs1 rfl) GrownW.refl rfl rfl rfl ?_; apply Exists.intro; refine ⟨?_, ?_⟩; · (go_simp; rfl)) | (refine wpY_move rfl rfl (by first | exact runs0 | exact runs1 rfl) GrownW.refl rfl rfl rfl (fun _ _ _ h _ => h) ?_) | (refine wpY_val rfl rfl (by first | exact runs0 | exact runs1 rfl) GrownW.refl rfl ?_; apply Exists.intro; refine ⟨?_, ?_⟩; · (intro a w' hR; (try (intro h1; try have e1 : _ = _ := h1)); (try (intro h2; try have e2 : _ = _ := h2)); (try (intro h3; try have e3 : _ = _ := h3)); go_simp; rfl)) | (refine wpY_skip rfl rfl (by first | exact .inl rfl | exact .inr rfl) ?_))
  refine wpY_val rfl rfl (by first | exact runs0 | exact runs1 rfl) GrownW.refl rfl ?_; apply Exists.intro; refine ⟨?_, ?_⟩
  · intro a w' hR h1
    have e1 : _ = _ := h1
    have hl := hR.ext.cell c3
    go_simp
    rfl
  refine wpY_call (fun v _ => v = .int .i64 (cmpI a1 b1)) rfl rfl (by first | exact runs0 | exact runs1 rfl) rfl (by exact mono_eq) ?_ ?_
  · intro a w' hR h1 h2 K hK
    have e1 : _ = _ := h1
    have e2 : _ = _ := h2
    go_simp
    refine (compareInt_any a1 b1 w').mono ?_
    rintro e w2 ⟨rfl, rfl⟩
    exact hK _ _ (GrownW.refl _) rfl
  repeat (first | (refine wpY_move0 rfl rfl (by first | exact runs0 | exact runs1 rfl) GrownW.refl rfl rfl rfl ?_; apply Exists.intro; refine ⟨?_, ?_⟩; · (go_simp; rfl)) | (refine wpY_move rfl rfl (by first | exact runs0 | exact runs1 rfl) GrownW.refl rfl rfl rfl (fun _ _ _ h _ => h) ?_) | (refine wpY_val rfl rfl (by first | exact runs0 | exact runs1 rfl) GrownW.refl rfl ?_; apply Exists.intro; refine ⟨?_, ?_⟩; · (intro a w' hR; (try (intro h1; try have e1 : _ = _ := h1)); (try (intro h2; try have e2 : _ = _ := h2)); (try (intro h3; try have e3 : _ = _ := h3)); go_simp; rfl)) | (refine wpY_skip rfl rfl (by first | exact .inl rfl | exact .inr rfl) ?_))
  refine wpY_val rfl rfl (by first | exact runs0 | exact runs1 rfl) GrownW.refl rfl ?_; apply Exists.intro; refine ⟨?_, ?_⟩
  · intro a w' hR h1
    have e1 : _ = _ := h1
    have hl := hR.ext.cell c2
    go_simp
    rfl
  repeat (first | (refine wpY_move0 rfl rfl (by first | exact runs0 | exact runs1 rfl) GrownW.refl rfl rfl rfl ?_; apply Exists.intro; refine ⟨?_, ?_⟩; · (go_simp; rfl)) | (refine wpY_move rfl rfl (by first | exact runs0 | exact runs1 rfl) GrownW.refl rfl rfl rfl (fun _ _ _ h _ => h) ?_) | (refine wpY_val rfl rfl (by first | exact runs0 | exact runs1 rfl) GrownW.refl rfl ?_; apply Exists.intro; refine ⟨?_, ?_⟩; · (intro a w' hR; (try (intro h1; try have e1 : _ = _ := h1)); (try (intro h2; try have e2 : _ = _ := h2)); (try (intro h3; try have e3 : _ = _ := h3)); go_simp; rfl)) | (refine wpY_skip rfl rfl (by first | exact .inl rfl | exact .inr rfl) ?_))
  refine wpY_val rfl rfl (by first | exact runs0 | exact runs1 rfl) GrownW.refl rfl ?_; apply Exists.intro; refine ⟨?_, ?_⟩
  · intro a w' hR h1
    have e1 : _ = _ := h1
    have hl := hR.ext.cell c4
    go_simp
    rfl
  refine wpY_call (fun v _ => v = .int .i64 (cmpI a2 b2)) rfl rfl (by first | exact runs0 | exact runs1 rfl) rfl (by exact mono_eq) ?_ ?_
  · intro a w' hR h1 h2 K hK
    have e1 : _ = _ := h1
    have e2 : _ = _ := h2
    go_simp
    refine (compareInt_any a2 b2 w').mono ?_
    rintro e w2 ⟨rfl, rfl⟩
    exact hK _ _ (GrownW.refl _) rfl
  refine wpY_call (fun v w2 => Rd w2 1 v 2 [.int .i64 (cmpI a1 b1), .int .i64 (cmpI a2 b2)]) rfl rfl (by first | exact runs0 | exact runs1 rfl) rfl (by first | exact mono_eq | exact (fun _ _ _ h k => Rd.ext h k) | exact (fun _ _ _ h k => RB.ext h k) | exact (fun _ _ _ h k => OB.ext h k) | exact (fun _ _ _ h k => RB.extS h k) | exact (fun _ _ _ h k => Rd.ext h (GrownW.ext k)) | exact (fun _ _ _ h k => RP.ext h k) | exact (fun _ _ _ h k => OP.ext h k) | exact (fun _ _ _ h k => Rd.extV h k) | exact (fun _ _ _ h k => RB.extV h k) | exact (fun _ _ _ h k => E0.ext h k) | exact (fun _ _ _ h k => O0.ext h k) | exact (fun _ _ _ h k => RE.ext h k) | exact (fun _ _ _ h k => RE.extD h k) | exact (fun _ _ _ h _ => h) | exact (fun _ _ _ ⟨n, h1, h2⟩ k => ⟨n, h1, k.st _ _ h2⟩) | exact (fun _ _ _ h k => OE.ext h k)) ?_ ?_
  · intro a w' hR h1 h2 K hK
    have e1 : _ = _ := h1
    have e2 : _ = _ := h2
    have q1 : a.tmps[9]?.getD undef = .int .i64 (cmpI a1 b1) := by simpa using e1
    have q2 : a.tmps[14]?.getD undef = .int .i64 (cmpI a2 b2) := by simpa using e2
    go_simp
    exact hK _ _ ((GrownW.refl _).alloc _) (Rd.lit _ #[.int .i64 (cmpI a1 b1), .int .i64 (cmpI a2 b2)] _ 2 rfl (by unfold maxLen; omega))
  refine wpY_call (fun v _ => v = .int .i64 (orI (cmpI a1 b1) (cmpI a2 b2))) rfl rfl (by first | exact runs0 | exact runs1 rfl) rfl (by first | exact mono_eq | exact (fun _ _ _ h k => Rd.ext h k) | exact (fun _ _ _ h k => RB.ext h k) | exact (fun _ _ _ h k => OB.ext h k) | exact (fun _ _ _ h k => RB.extS h k) | exact (fun _ _ _ h k => Rd.ext h (GrownW.ext k)) | exact (fun _ _ _ h k => RP.ext h k) | exact (fun _ _ _ h k => OP.ext h k) | exact (fun _ _ _ h k => Rd.extV h k) | exact (fun _ _ _ h k => RB.extV h k) | exact (fun _ _ _ h k => E0.ext h k) | exact (fun _ _ _ h k => O0.ext h k) | exact (fun _ _ _ h k => RE.ext h k) | exact (fun _ _ _ h k => RE.extD h k) | exact (fun _ _ _ h _ => h) | exact (fun _ _ _ ⟨n, h1, h2⟩ k => ⟨n, h1, k.st _ _ h2⟩) | exact (fun _ _ _ h k => OE.ext h k)) ?_ ?_
  · intro a w' hR h1 K hK
    obtain ⟨x, ex, fx⟩ : ∃ x, a.tmps.getD 15 undef = x ∧ (fun v w2 => Rd w2 1 v 2 [.int .i64 (cmpI a1 b1), .int .i64 (cmpI a2 b2)]) x w' := ⟨_, rfl, h1⟩
    go_simp
    refine (or_any _ _ _ w' fx).mono ?_
    rintro e w2 ⟨rfl, rfl⟩
    exact hK _ _ (GrownW.refl _) rfl
  repeat (first | (refine wpY_move0 rfl rfl (by first | exact runs0 | exact runs1 rfl) GrownW.refl rfl rfl rfl ?_; apply Exists.intro; refine ⟨?_, ?_⟩; · (go_simp; rfl)) | (refine wpY_move rfl rfl (by first | exact runs0 | exact runs1 rfl) GrownW.refl rfl rfl rfl (fun _ _ _ h _ => h) ?_) | (refine wpY_val rfl rfl (by first | exact runs0 | exact runs1 rfl) GrownW.refl rfl ?_; apply Exists.intro; refine ⟨?_, ?_⟩; · (intro a w' hR; (try (intro h1; try have e1 : _ = _ := h1)); (try (intro h2; try have e2 : _ = _ := h2)); (try (intro h3; try have e3 : _ = _ := h3)); go_simp; rfl)) | (refine wpY_skip rfl rfl (by first | exact .inl rfl | exact .inr rfl) ?_))
  refine wpY_done ?_
  intro w5 hx5 hS
  iterate 10 (rintro _ rfl)
  iterate 1 (intro _ hz; clear hz)
  iterate 2 (rintro _ rfl)
  dsimp only [FinV]
  go_simp
  go_wp2
  go_ret
  rw [HC.out]
  exact ⟨rfl, hx.trans hx5⟩
theorem orAr (x y : Pl.Ar) : orI (Mom.cmp x.1.1 y.1.1) (Mom.cmp x.1.2 y.1.2) = Pl.cmpA x y := by
  unfold orI Pl.cmpA
  by_cases h : Mom.cmp x.1.1 y.1.1 = 0 <;> simp [h]
set_option maxHeartbeats 1000000 in
theorem cmpArc_grown (x y : Pl.Ar) (w : World) : Calls Try.prog 32 #[arV x, arV y] w fun e w' => e = .returned (.int .i64 (Pl.cmpA x y)) ∧ GrownW w w' := by
  have HC := Lib.hid (orAr x y)
  obtain ⟨⟨⟨x1, x2⟩, x3, x4⟩, x5, x6⟩ := x
  obtain ⟨⟨⟨y1, y2⟩, y3, y4⟩, y5, y6⟩ := y
  dsimp only at *
  go_enter Try.func32, Try.ntmps32
  go_wp2
  obtain ⟨w2, hw2, hx, c0, c1, c2, c3, d0, d1, d2, d3⟩ := box6 w 39 (.int .i64 x1) (.int .i64 x2) (.int .i64 x3) (.int .i64 x4) (.bool x5) (.int .i64 x6) (.int .i64 y1) (.int .i64 y2) (.int .i64 y3) (.int .i64 y4) (.bool y5) (.int .i64 y6)
  rw [← hw2]
  clear hw2
  generalize w.heap.size = n at *
  refine wp_regionY [] [] GrownW GrownW (fun _ => True) (by kernel_rfl) (by rfl) (by rfl) (by kernel_rfl) (by kernel_rfl) (by kernel_rfl) (fun _ _ _ x y => x.trans y) GrownW.refl (fun _ _ x => x) (GrownW.refl _).drew (fun _ _ x _ => x) trivial ?_
  repeat (first | (refine wpY_move0 rfl rfl (by first | exact runs0 | exact runs1 rfl) GrownW.refl rfl rfl rfl ?_; apply Exists.intro; refine ⟨?_, ?_⟩; · (go_simp; rfl)) | (refine wpY_move rfl rfl (by first | exact runs0 | exact runs1 rfl) GrownW.refl rfl rfl rfl (fun _ _ _ h _ => h) ?_) | (refine wpY_val rfl rfl (by first | exact runs0 | exact runs1 rfl) GrownW.refl rfl ?_; apply Exists.intro; refine ⟨?_, ?_⟩; · (intro a w' hR; (try (intro h1; try have e1 : _ = _ := h1)); (try (intro h2; try have e2 : _ = _ := h2)); (try (intro h3; try have e3 : _ = _ := h3)); go_simp; rfl)) | (refine wpY_skip rfl rfl (by first | exact .inl rfl | exact .inr rfl) ?_))
  refine wpY_val rfl rfl (by first | exact runs0 | exact runs1 rfl) GrownW.refl rfl ?_; apply Exists.intro; refine ⟨?_, ?_⟩
  · intro a w' hR h1
    have e1 : _ = _ := h1
    have hl := hR.ext.cell c0
    have hl2 := hR.ext.cell c1
    go_simp
    rfl
  repeat (first | (refine wpY_move0 rfl rfl (by first | exact runs0 | exact runs1 rfl) GrownW.refl rfl rfl rfl ?_; apply Exists.intro; refine ⟨?_, ?_⟩; · (go_simp; rfl)) | (refine wpY_move rfl rfl (by first | exact runs0 | exact runs1 rfl) GrownW.refl rfl rfl rfl (fun _ _ _ h _ => h) ?_) | (refine wpY_val rfl rfl (by first | exact runs0 | exact runs1 rfl) GrownW.refl rfl ?_; apply Exists.intro; refine ⟨?_, ?_⟩; · (intro a w' hR; (try (intro h1; try have e1 : _ = _ := h1)); (try (intro h2; try have e2 : _ = _ := h2)); (try (intro h3; try have e3 : _ = _ := h3)); go_simp; rfl)) | (refine wpY_skip rfl rfl (by first | exact .inl rfl | exact .inr rfl) ?_))
  refine wpY_val rfl rfl (by first | exact runs0 | exact runs1 rfl) GrownW.refl rfl ?_; apply Exists.intro; refine ⟨?_, ?_⟩
  · intro a w' hR h1
    have e1 : _ = _ := h1
    have hl := hR.ext.cell d0
    have hl2 := hR.ext.cell d1
    go_simp
    rfl
  refine wpY_call (fun v _ => v = .int .i64 (Mom.cmp (x1, x2) (y1, y2))) rfl rfl (by first | exact runs0 | exact runs1 rfl) rfl (by first | exact mono_eq | exact (fun _ _ _ h k => Rd.ext h k) | exact (fun _ _ _ h k => RB.ext h k) | exact (fun _ _ _ h k => OB.ext h k) | exact (fun _ _ _ h k => RB.extS h k) | exact (fun _ _ _ h k => Rd.ext h (GrownW.ext k)) | exact (fun _ _ _ h k => RP.ext h k) | exact (fun _ _ _ h k => OP.ext h k) | exact (fun _ _ _ h k => Rd.extV h k) | exact (fun _ _ _ h k => RB.extV h k) | exact (fun _ _ _ h k => E0.ext h k) | exact (fun _ _ _ h k => O0.ext h k) | exact (fun _ _ _ h k => RE.ext h k) | exact (fun _ _ _ h k => RE.extD h k) | exact (fun _ _ _ h _ => h) | exact (fun _ _ _ ⟨n, h1, h2⟩ k => ⟨n, h1, k.st _ _ h2⟩) | exact (fun _ _ _ h k => OE.ext h k)) ?_ ?_
  · intro a w' hR h1 h2 K hK
    have e1 : _ = _ := h1
    have e2 : _ = _ := h2
    go_simp
    refine (order_grown (x1, x2) (y1, y2) w').mono ?_
    rintro e w2 ⟨rfl, hg⟩
    exact hK _ _ hg rfl
  repeat (first | (refine wpY_move0 rfl rfl (by first | exact runs0 | exact runs1 rfl) GrownW.refl rfl rfl rfl ?_; apply Exists.intro; refine ⟨?_, ?_⟩; · (go_simp; rfl)) | (refine wpY_move rfl rfl (by first | exact runs0 | exact runs1 rfl) GrownW.refl rfl rfl rfl (fun _ _ _ h _ => h) ?_) | (refine wpY_val rfl rfl (by first | exact runs0 | exact runs1 rfl) GrownW.refl rfl ?_; apply Exists.intro; refine ⟨?_, ?_⟩; · (intro a w' hR; (try (intro h1; try have e1 : _ = _ := h1)); (try (intro h2; try have e2 : _ = _ := h2)); (try (intro h3; try have e3 : _ = _ := h3)); go_simp; rfl)) | (refine wpY_skip rfl rfl (by first | exact .inl rfl | exact .inr rfl) ?_))
  refine wpY_val rfl rfl (by first | exact runs0 | exact runs1 rfl) GrownW.refl rfl ?_; apply Exists.intro; refine ⟨?_, ?_⟩
  · intro a w' hR h1
    have e1 : _ = _ := h1
    have hl := hR.ext.cell c2
    have hl2 := hR.ext.cell c3
    go_simp
    rfl
  repeat (first | (refine wpY_move0 rfl rfl (by first | exact runs0 | exact runs1 rfl) GrownW.refl rfl rfl rfl ?_; apply Exists.intro; refine ⟨?_, ?_⟩; · (go_simp; rfl)) | (refine wpY_move rfl rfl (by first | exact runs0 | exact runs1 rfl) GrownW.refl rfl rfl rfl (fun _ _ _ h _ => h) ?_) | (refine wpY_val rfl rfl (by first | exact runs0 | exact runs1 rfl) GrownW.refl rfl ?_; apply Exists.intro; refine ⟨?_, ?_⟩; · (intro a w' hR; (try (intro h1; try have e1 : _ = _ := h1)); (try (intro h2; try have e2 : _ = _ := h2)); (try (intro h3; try have e3 : _ = _ := h3)); go_simp; rfl)) | (refine wpY_skip rfl rfl (by first | exact .inl rfl | exact .inr rfl) ?_))
  refine wpY_val rfl rfl (by first | exact runs0 | exact runs1 rfl) GrownW.refl rfl ?_; apply Exists.intro; refine ⟨?_, ?_⟩
  · intro a w' hR h1
    have e1 : _ = _ := h1
    have hl := hR.ext.cell d2
    have hl2 := hR.ext.cell d3
    go_simp
    rfl
  refine wpY_call (fun v _ => v = .int .i64 (Mom.cmp (x3, x4) (y3, y4))) rfl rfl (by first | exact runs0 | exact runs1 rfl) rfl (by first | exact mono_eq | exact (fun _ _ _ h k => Rd.ext h k) | exact (fun _ _ _ h k => RB.ext h k) | exact (fun _ _ _ h k => OB.ext h k) | exact (fun _ _ _ h k => RB.extS h k) | exact (fun _ _ _ h k => Rd.ext h (GrownW.ext k)) | exact (fun _ _ _ h k => RP.ext h k) | exact (fun _ _ _ h k => OP.ext h k) | exact (fun _ _ _ h k => Rd.extV h k) | exact (fun _ _ _ h k => RB.extV h k) | exact (fun _ _ _ h k => E0.ext h k) | exact (fun _ _ _ h k => O0.ext h k) | exact (fun _ _ _ h k => RE.ext h k) | exact (fun _ _ _ h k => RE.extD h k) | exact (fun _ _ _ h _ => h) | exact (fun _ _ _ ⟨n, h1, h2⟩ k => ⟨n, h1, k.st _ _ h2⟩) | exact (fun _ _ _ h k => OE.ext h k)) ?_ ?_
  · intro a w' hR h1 h2 K hK
    have e1 : _ = _ := h1
    have e2 : _ = _ := h2
    go_simp
    refine (order_grown (x3, x4) (y3, y4) w').mono ?_
    rintro e w2 ⟨rfl, hg⟩
    exact hK _ _ hg rfl
  refine wpY_call (fun v w2 => Rd w2 1 v 2 [.int .i64 (Mom.cmp (x1, x2) (y1, y2)), .int .i64 (Mom.cmp (x3, x4) (y3, y4))]) rfl rfl (by first | exact runs0 | exact runs1 rfl) rfl (by first | exact mono_eq | exact (fun _ _ _ h k => Rd.ext h k) | exact (fun _ _ _ h k => RB.ext h k) | exact (fun _ _ _ h k => OB.ext h k) | exact (fun _ _ _ h k => RB.extS h k) | exact (fun _ _ _ h k => Rd.ext h (GrownW.ext k)) | exact (fun _ _ _ h k => RP.ext h k) | exact (fun _ _ _ h k => OP.ext h k) | exact (fun _ _ _ h k => Rd.extV h k) | exact (fun _ _ _ h k => RB.extV h k) | exact (fun _ _ _ h k => E0.ext h k) | exact (fun _ _ _ h k => O0.ext h k) | exact (fun _ _ _ h k => RE.ext h k) | exact (fun _ _ _ h k => RE.extD h k) | exact (fun _ _ _ h _ => h) | exact (fun _ _ _ ⟨n, h1, h2⟩ k => ⟨n, h1, k.st _ _ h2⟩) | exact (fun _ _ _ h k => OE.ext h k)) ?_ ?_
  · intro a w' hR h1 h2 K hK
    have e1 : _ = _ := h1
    have e2 : _ = _ := h2
    have q1 : a.tmps[9]?.getD undef = .int .i64 (Mom.cmp (x1, x2) (y1, y2)) := by simpa using e1
    have q2 : a.tmps[14]?.getD undef = .int .i64 (Mom.cmp (x3, x4) (y3, y4)) := by simpa using e2
    go_simp
    exact hK _ _ ((GrownW.refl _).alloc _) (Rd.lit _ #[.int .i64 (Mom.cmp (x1, x2) (y1, y2)), .int .i64 (Mom.cmp (x3, x4) (y3, y4))] _ 2 rfl (by unfold maxLen; omega))
  refine wpY_call (fun v _ => v = .int .i64 (orI (Mom.cmp (x1, x2) (y1, y2)) (Mom.cmp (x3, x4) (y3, y4)))) rfl rfl (by first | exact runs0 | exact runs1 rfl) rfl (by first | exact mono_eq | exact (fun _ _ _ h k => Rd.ext h k) | exact (fun _ _ _ h k => RB.ext h k) | exact (fun _ _ _ h k => OB.ext h k) | exact (fun _ _ _ h k => RB.extS h k) | exact (fun _ _ _ h k => Rd.ext h (GrownW.ext k)) | exact (fun _ _ _ h k => RP.ext h k) | exact (fun _ _ _ h k => OP.ext h k) | exact (fun _ _ _ h k => Rd.extV h k) | exact (fun _ _ _ h k => RB.extV h k) | exact (fun _ _ _ h k => E0.ext h k) | exact (fun _ _ _ h k => O0.ext h k) | exact (fun _ _ _ h k => RE.ext h k) | exact (fun _ _ _ h k => RE.extD h k) | exact (fun _ _ _ h _ => h) | exact (fun _ _ _ ⟨n, h1, h2⟩ k => ⟨n, h1, k.st _ _ h2⟩) | exact (fun _ _ _ h k => OE.ext h k)) ?_ ?_
  · intro a w' hR h1 K hK
    obtain ⟨x, ex, fx⟩ : ∃ x, a.tmps.getD 15 undef = x ∧ (fun v w2 => Rd w2 1 v 2 [.int .i64 (Mom.cmp (x1, x2) (y1, y2)), .int .i64 (Mom.cmp (x3, x4) (y3, y4))]) x w' := ⟨_, rfl, h1⟩
    go_simp
    refine (or_any _ _ _ w' fx).mono ?_
    rintro e w2 ⟨rfl, rfl⟩
    exact hK _ _ (GrownW.refl _) rfl
  repeat (first | (refine wpY_move0 rfl rfl (by first | exact runs0 | exact runs1 rfl) GrownW.refl rfl rfl rfl ?_; apply Exists.intro; refine ⟨?_, ?_⟩; · (go_simp; rfl)) | (refine wpY_move rfl rfl (by first | exact runs0 | exact runs1 rfl) GrownW.refl rfl rfl rfl (fun _ _ _ h _ => h) ?_) | (refine wpY_val rfl rfl (by first | exact runs0 | exact runs1 rfl) GrownW.refl rfl ?_; apply Exists.intro; refine ⟨?_, ?_⟩; · (intro a w' hR; (try (intro h1; try have e1 : _ = _ := h1)); (try (intro h2; try have e2 : _ = _ := h2)); (try (intro h3; try have e3 : _ = _ := h3)); go_simp; rfl)) | (refine wpY_skip rfl rfl (by first | exact .inl rfl | exact .inr rfl) ?_))
  refine wpY_done ?_
  intro w5 hx5 hS
  iterate 10 (rintro _ rfl)
  iterate 1 (intro _ hz; clear hz)
  iterate 2 (rintro _ rfl)
  dsimp only [FinV]
  go_simp
  go_wp2
  go_ret
  rw [HC.out]
  exact ⟨rfl, hx.trans hx5⟩
theorem cmpLaysA (blk off size : Nat) (w : World) : Go.Proofs.CmpLays Try.prog 32 #[] encA.enc 6 Pl.cmpA blk off size w :=
  fun _ _ _ _ x y => cmpArc_grown x y _
end Go.Proofs.Ytcacicgkebcdkaa
