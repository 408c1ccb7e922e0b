/-
  Entries: which may be; how two stand; the document's words on both.
-/
import Derived.Test.YtbokblklldphgaaEntMath
import Derived.Test.YtbokblklldphgaaRecRef
import Derived.Test.YtbokblklldphgaaMomRef
namespace Go.Proofs.Ytbokblklldphgaa
open Go.RowKit Go.Ox Go.Shelf
set_option linter.unusedVariables false
set_option linter.unusedSimpArgs false

/-- an entry's box -/
structure Bx4 (w : World) (p : Nat) (a b c d : Int) : Prop where
  c0 : w.cell? ⟨p, 0, none⟩ = some (.int .i64 a)
  c1 : w.cell? ⟨p, 1, none⟩ = some (.int .i64 b)
  c2 : w.cell? ⟨p, 2, none⟩ = some (.int .i64 c)
  c3 : w.cell? ⟨p, 3, none⟩ = some (.int .i64 d)
theorem Bx4.ext {w w' : World} {p : Nat} {a b c d : Int} (h : Bx4 w p a b c d) (he : Ext w w') : Bx4 w' p a b c d := ⟨he.cell h.c0, he.cell h.c1, he.cell h.c2, he.cell h.c3⟩
theorem Bx4.new (w : World) (T : TypeId) (a b c d : Int) : Bx4 (w.alloc (.cells #[.int .i64 a, .int .i64 b, .int .i64 c, .int .i64 d] T)) w.heap.size a b c d :=
  ⟨(Blk.new w T _).cell 0, (Blk.new w T _).cell 1, (Blk.new w T _).cell 2, (Blk.new w T _).cell 3⟩

set_option maxRecDepth 100000 in
set_option maxHeartbeats 1000000 in
theorem checkE_any (x : Ent.E) (w : World) : Calls Try.prog 27 #[entV x] w fun e w' => e = .returned (.int .i64 (Ent.okE x)) ∧ Ext w w' := by
  have HM := Lib.hid (fun w => Mo.check_any x.1 w)
  have HR := Lib.hid (fun w => check_any x.2 w)
  have HE := Lib.hid (show Ent.okE x = if Mom.ok x.1 = true then (if Rec.ok x.2 = true then 0 else 30) else 40 from rfl)
  generalize Ent.okE x = oe at *
  generalize Mom.ok x.1 = k1 at *
  generalize Rec.ok x.2 = k2 at *
  obtain ⟨⟨x1, x2⟩, x3, x4⟩ := x
  dsimp only at *
  have HB := Lib.hid (Bx4.new w 33 x1 x2 x3 x4)
  have HX := Lib.hid ((Ext.refl w).alloc (.cells #[.int .i64 x1, .int .i64 x2, .int .i64 x3, .int .i64 x4] 33))
  cases k1 with
  | false =>
    rw [if_neg (by simp)] at HM HE
    obtain ⟨c0, c1, c2, c3⟩ := HB.out
    go_enter Try.func27, Try.ntmps27
    go_wp2_with fail
    refine (HM.out _).mono ?_
    rintro e w1 ⟨rfl, he1⟩
    go_wp2
    go_ret
    rw [HE.out]
    exact ⟨rfl, HX.out.trans he1⟩
  | true =>
    rw [if_pos rfl] at HM HE
    rw [← HE.out] at HR
    obtain ⟨c0, c1, c2, c3⟩ := HB.out
    go_enter Try.func27, Try.ntmps27
    go_wp2_with fail
    refine (HM.out _).mono ?_
    rintro e w1 ⟨rfl, he1⟩
    have c2 := he1.cell c2
    have c3 := he1.cell c3
    go_wp2_with fail
    refine (HR.out _).mono ?_
    rintro e w2 ⟨rfl, he2⟩
    go_wp2
    go_ret
    exact ⟨rfl, (HX.out.trans he1).trans he2⟩
set_option maxRecDepth 100000 in
set_option maxHeartbeats 1000000 in
theorem rcheckE_any (x : Ent.E) (w : World) : Calls Try.prog 50 #[entV x] w fun e w' => e = .returned (.int .i64 (Ent.okE x)) ∧ Ext w w' := by
  have HM := Lib.hid (fun w => Mo.rcheck_any x.1 w)
  have HR := Lib.hid (fun w => rcheck_any x.2 w)
  have HE := Lib.hid (show Ent.okE x = if Mom.ok x.1 = true then (if Rec.ok x.2 = true then 0 else 30) else 40 from rfl)
  generalize Ent.okE x = oe at *
  generalize Mom.ok x.1 = k1 at *
  generalize Rec.ok x.2 = k2 at *
  obtain ⟨⟨x1, x2⟩, x3, x4⟩ := x
  dsimp only at *
  have HB := Lib.hid (Bx4.new w 33 x1 x2 x3 x4)
  have HX := Lib.hid ((Ext.refl w).alloc (.cells #[.int .i64 x1, .int .i64 x2, .int .i64 x3, .int .i64 x4] 33))
  cases k1 with
  | false =>
    rw [if_neg (by simp)] at HE
    obtain ⟨c0, c1, c2, c3⟩ := HB.out
    go_enter Try.func50, Try.ntmps50
    go_wp2_with fail
    refine (HM.out _).mono ?_
    rintro e w1 ⟨rfl, he1⟩
    go_wp2
    go_ret
    rw [HE.out]
    exact ⟨rfl, HX.out.trans he1⟩
  | true =>
    rw [if_pos rfl] at HE
    cases k2 with
    | false =>
      rw [if_neg (by simp)] at HE
      obtain ⟨c0, c1, c2, c3⟩ := HB.out
      go_enter Try.func50, Try.ntmps50
      go_wp2_with fail
      refine (HM.out _).mono ?_
      rintro e w1 ⟨rfl, he1⟩
      have c2 := he1.cell c2
      have c3 := he1.cell c3
      go_wp2_with fail
      refine (HR.out _).mono ?_
      rintro e w2 ⟨rfl, he2⟩
      go_wp2
      go_ret
      rw [HE.out]
      exact ⟨rfl, (HX.out.trans he1).trans he2⟩
    | true =>
      rw [if_pos rfl] at HE
      obtain ⟨c0, c1, c2, c3⟩ := HB.out
      go_enter Try.func50, Try.ntmps50
      go_wp2_with fail
      refine (HM.out _).mono ?_
      rintro e w1 ⟨rfl, he1⟩
      have c2 := he1.cell c2
      have c3 := he1.cell c3
      go_wp2_with fail
      refine (HR.out _).mono ?_
      rintro e w2 ⟨rfl, he2⟩
      go_wp2
      go_ret
      rw [HE.out]
      exact ⟨rfl, (HX.out.trans he1).trans he2⟩

theorem orE (a b : Ent.E) : orI (Mom.cmp a.1 b.1) (Mom.cmp a.2 b.2) = Ent.cmp a b := by
  unfold orI Ent.cmp
  by_cases h : Mom.cmp a.1 b.1 = 0 <;> simp [h]
theorem box4 (w : World) (T : TypeId) (a b c d a' b' c' d' : Value) : ∃ w2, w2 = (w.alloc (.cells #[a, b, c, d] T)).alloc (.cells #[a', b', c', d'] T) ∧ GrownW w w2 ∧
    w2.cell? ⟨w.heap.size, 0, none⟩ = some a ∧ w2.cell? ⟨w.heap.size, 1, none⟩ = some b ∧ w2.cell? ⟨w.heap.size, 2, none⟩ = some c ∧ w2.cell? ⟨w.heap.size, 3, none⟩ = some d ∧
    w2.cell? ⟨w.heap.size + 1, 0, none⟩ = some a' ∧ w2.cell? ⟨w.heap.size + 1, 1, none⟩ = some b' ∧ w2.cell? ⟨w.heap.size + 1, 2, none⟩ = some c' ∧ w2.cell? ⟨w.heap.size + 1, 3, none⟩ = some d' := by
  have h1 := (Blk.new w T #[a, b, c, d]).ext ((Ext.refl _).alloc (.cells #[a', b', c', d'] T))
  have h2 := Blk.new (w.alloc (.cells #[a, b, c, d] T)) T #[a', b', c', d']
  have hs : (w.alloc (.cells #[a, b, c, d] T)).heap.size = w.heap.size + 1 := by simp
  rw [hs] at h2
  exact ⟨_, rfl, ((GrownW.refl _).alloc _).alloc _, h1.cell 0, h1.cell 1, h1.cell 2, h1.cell 3, h2.cell 0, h2.cell 1, h2.cell 2, h2.cell 3⟩
set_option maxRecDepth 100000 in
set_option maxHeartbeats 1000000 in
theorem compareE_grown (x y : Ent.E) (w : World) : Calls Try.prog 31 #[entV x, entV y] w fun e w' => e = .returned (.int .i64 (Ent.cmp x y)) ∧ GrownW w w' := by
  have HC := Lib.hid (orE x y)
  obtain ⟨⟨x1, x2⟩, x3, x4⟩ := x
  obtain ⟨⟨y1, y2⟩, y3, y4⟩ := y
  dsimp only at *
  go_enter Try.func31, Try.ntmps31
  go_wp2
  obtain ⟨w2, hw2, hx, c0, c1, c2, c3, d0, d1, d2, d3⟩ := box4 w 33 (.int .i64 x1) (.int .i64 x2) (.int .i64 x3) (.int .i64 x4) (.int .i64 y1) (.int .i64 y2) (.int .i64 y3) (.int .i64 y4)
  rw [← hw2]
  clear hw2
  generalize w.heap.size = n at *
  refine wp_regionY [] [] GrownW GrownW (fun _ => True) (by kernel_rfl) (by rfl) (by rfl) (by kernel_rfl) (by kernel_rfl) (by kernel_rfl) (fun _ _ _ x y => x.trans y) GrownW.refl (fun _ _ x => x) (GrownW.refl _).drew (fun _ _ x _ => x) trivial ?_
  repeat (first | (refine wpY_move0 rfl rfl (by first | exact runs0 | exact runs1 rfl) GrownW.refl rfl rfl rfl ?_; apply Exists.intro; refine ⟨?_, ?_⟩; · (go_simp; rfl)) | (refine wpY_move rfl rfl (by first | exact runs0 | exact runs1 rfl) GrownW.refl rfl rfl rfl (fun _ _ _ h _ => h) ?_) | (refine wpY_val rfl rfl (by first | exact runs0 | exact runs1 rfl) GrownW.refl rfl ?_; apply Exists.intro; refine ⟨?_, ?_⟩; · (intro a w' hR; intro h1; (first | (have e1 : _ = _ := h1) | skip); intro h2; (first | (have e2 : _ = _ := h2) | skip); go_simp; rfl)) | (refine wpY_val rfl rfl (by first | exact runs0 | exact runs1 rfl) GrownW.refl rfl ?_; apply Exists.intro; refine ⟨?_, ?_⟩; · (intro a w' hR; intro h1; (first | (have e1 : _ = _ := h1) | skip); go_simp; rfl)) | (refine wpY_val rfl rfl (by first | exact runs0 | exact runs1 rfl) GrownW.refl rfl ?_; apply Exists.intro; refine ⟨?_, ?_⟩; · (intro a w' hR; go_simp; rfl)) | (refine wpY_val rfl rfl (by first | exact runs0 | exact runs1 rfl) GrownW.refl rfl ?_; apply Exists.intro; refine ⟨?_, ?_⟩; · (intro a w' hR; intro h1; (first | (have e1 : _ = _ := h1) | skip); intro h2; (first | (have e2 : _ = _ := h2) | skip); intro h3; (first | (have e3 : _ = _ := h3) | skip); go_simp; rfl)) | (refine wpY_skip rfl rfl (by first | exact .inl rfl | exact .inr rfl) ?_))
  refine wpY_val rfl rfl (by first | exact runs0 | exact runs1 rfl) GrownW.refl rfl ?_; apply Exists.intro; refine ⟨?_, ?_⟩
  · intro a w' hR h1
    have e1 : _ = _ := h1
    have hl := hR.ext.cell c0
    have hl2 := hR.ext.cell c1
    go_simp
    rfl
  repeat (first | (refine wpY_move0 rfl rfl (by first | exact runs0 | exact runs1 rfl) GrownW.refl rfl rfl rfl ?_; apply Exists.intro; refine ⟨?_, ?_⟩; · (go_simp; rfl)) | (refine wpY_move rfl rfl (by first | exact runs0 | exact runs1 rfl) GrownW.refl rfl rfl rfl (fun _ _ _ h _ => h) ?_) | (refine wpY_val rfl rfl (by first | exact runs0 | exact runs1 rfl) GrownW.refl rfl ?_; apply Exists.intro; refine ⟨?_, ?_⟩; · (intro a w' hR; intro h1; (first | (have e1 : _ = _ := h1) | skip); intro h2; (first | (have e2 : _ = _ := h2) | skip); go_simp; rfl)) | (refine wpY_val rfl rfl (by first | exact runs0 | exact runs1 rfl) GrownW.refl rfl ?_; apply Exists.intro; refine ⟨?_, ?_⟩; · (intro a w' hR; intro h1; (first | (have e1 : _ = _ := h1) | skip); go_simp; rfl)) | (refine wpY_val rfl rfl (by first | exact runs0 | exact runs1 rfl) GrownW.refl rfl ?_; apply Exists.intro; refine ⟨?_, ?_⟩; · (intro a w' hR; go_simp; rfl)) | (refine wpY_val rfl rfl (by first | exact runs0 | exact runs1 rfl) GrownW.refl rfl ?_; apply Exists.intro; refine ⟨?_, ?_⟩; · (intro a w' hR; intro h1; (first | (have e1 : _ = _ := h1) | skip); intro h2; (first | (have e2 : _ = _ := h2) | skip); intro h3; (first | (have e3 : _ = _ := h3) | skip); go_simp; rfl)) | (refine wpY_skip rfl rfl (by first | exact .inl rfl | exact .inr rfl) ?_))
  refine wpY_val rfl rfl (by first | exact runs0 | exact runs1 rfl) GrownW.refl rfl ?_; apply Exists.intro; refine ⟨?_, ?_⟩
  · intro a w' hR h1
    have e1 : _ = _ := h1
    have hl := hR.ext.cell d0
    have hl2 := hR.ext.cell d1
    go_simp
    rfl
  refine wpY_call (fun v _ => v = .int .i64 (Mom.cmp (x1, x2) (y1, y2))) rfl rfl (by first | exact runs0 | exact runs1 rfl) rfl (by first | exact mono_eq | exact (fun _ _ _ h k => Rd.ext h k) | exact (fun _ _ _ h k => RB.ext h k) | exact (fun _ _ _ h k => OB.ext h k) | exact (fun _ _ _ h k => RB.extS h k) | exact (fun _ _ _ h k => Rd.ext h (GrownW.ext k)) | exact (fun _ _ _ h k => RP.ext h k) | exact (fun _ _ _ h k => OP.ext h k) | exact (fun _ _ _ h k => Rd.extV h k) | exact (fun _ _ _ h k => RB.extV h k) | exact (fun _ _ _ h k => E0.ext h k) | exact (fun _ _ _ h k => O0.ext h k) | exact (fun _ _ _ h k => RE.ext h k) | exact (fun _ _ _ h k => RE.extD h k) | exact (fun _ _ _ h _ => h) | exact (fun _ _ _ ⟨n, h1, h2⟩ k => ⟨n, h1, k.st _ _ h2⟩)) ?_ ?_
  · intro a w' hR h1 h2 K hK
    have e1 : _ = _ := h1
    have e2 : _ = _ := h2
    go_simp
    refine (Mo.compare_grown (x1, x2) (y1, y2) w').mono ?_
    rintro e w2 ⟨rfl, hg⟩
    exact hK _ _ hg rfl
  repeat (first | (refine wpY_move0 rfl rfl (by first | exact runs0 | exact runs1 rfl) GrownW.refl rfl rfl rfl ?_; apply Exists.intro; refine ⟨?_, ?_⟩; · (go_simp; rfl)) | (refine wpY_move rfl rfl (by first | exact runs0 | exact runs1 rfl) GrownW.refl rfl rfl rfl (fun _ _ _ h _ => h) ?_) | (refine wpY_val rfl rfl (by first | exact runs0 | exact runs1 rfl) GrownW.refl rfl ?_; apply Exists.intro; refine ⟨?_, ?_⟩; · (intro a w' hR; intro h1; (first | (have e1 : _ = _ := h1) | skip); intro h2; (first | (have e2 : _ = _ := h2) | skip); go_simp; rfl)) | (refine wpY_val rfl rfl (by first | exact runs0 | exact runs1 rfl) GrownW.refl rfl ?_; apply Exists.intro; refine ⟨?_, ?_⟩; · (intro a w' hR; intro h1; (first | (have e1 : _ = _ := h1) | skip); go_simp; rfl)) | (refine wpY_val rfl rfl (by first | exact runs0 | exact runs1 rfl) GrownW.refl rfl ?_; apply Exists.intro; refine ⟨?_, ?_⟩; · (intro a w' hR; go_simp; rfl)) | (refine wpY_val rfl rfl (by first | exact runs0 | exact runs1 rfl) GrownW.refl rfl ?_; apply Exists.intro; refine ⟨?_, ?_⟩; · (intro a w' hR; intro h1; (first | (have e1 : _ = _ := h1) | skip); intro h2; (first | (have e2 : _ = _ := h2) | skip); intro h3; (first | (have e3 : _ = _ := h3) | skip); go_simp; rfl)) | (refine wpY_skip rfl rfl (by first | exact .inl rfl | exact .inr rfl) ?_))
  refine wpY_val rfl rfl (by first | exact runs0 | exact runs1 rfl) GrownW.refl rfl ?_; apply Exists.intro; refine ⟨?_, ?_⟩
  · intro a w' hR h1
    have e1 : _ = _ := h1
    have hl := hR.ext.cell c2
    have hl2 := hR.ext.cell c3
    go_simp
    rfl
  repeat (first | (refine wpY_move0 rfl rfl (by first | exact runs0 | exact runs1 rfl) GrownW.refl rfl rfl rfl ?_; apply Exists.intro; refine ⟨?_, ?_⟩; · (go_simp; rfl)) | (refine wpY_move rfl rfl (by first | exact runs0 | exact runs1 rfl) GrownW.refl rfl rfl rfl (fun _ _ _ h _ => h) ?_) | (refine wpY_val rfl rfl (by first | exact runs0 | exact runs1 rfl) GrownW.refl rfl ?_; apply Exists.intro; refine ⟨?_, ?_⟩; · (intro a w' hR; intro h1; (first | (have e1 : _ = _ := h1) | skip); intro h2; (first | (have e2 : _ = _ := h2) | skip); go_simp; rfl)) | (refine wpY_val rfl rfl (by first | exact runs0 | exact runs1 rfl) GrownW.refl rfl ?_; apply Exists.intro; refine ⟨?_, ?_⟩; · (intro a w' hR; intro h1; (first | (have e1 : _ = _ := h1) | skip); go_simp; rfl)) | (refine wpY_val rfl rfl (by first | exact runs0 | exact runs1 rfl) GrownW.refl rfl ?_; apply Exists.intro; refine ⟨?_, ?_⟩; · (intro a w' hR; go_simp; rfl)) | (refine wpY_val rfl rfl (by first | exact runs0 | exact runs1 rfl) GrownW.refl rfl ?_; apply Exists.intro; refine ⟨?_, ?_⟩; · (intro a w' hR; intro h1; (first | (have e1 : _ = _ := h1) | skip); intro h2; (first | (have e2 : _ = _ := h2) | skip); intro h3; (first | (have e3 : _ = _ := h3) | skip); go_simp; rfl)) | (refine wpY_skip rfl rfl (by first | exact .inl rfl | exact .inr rfl) ?_))
  refine wpY_val rfl rfl (by first | exact runs0 | exact runs1 rfl) GrownW.refl rfl ?_; apply Exists.intro; refine ⟨?_, ?_⟩
  · intro a w' hR h1
    have e1 : _ = _ := h1
    have hl := hR.ext.cell d2
    have hl2 := hR.ext.cell d3
    go_simp
    rfl
  refine wpY_call (fun v _ => v = .int .i64 (Mom.cmp (x3, x4) (y3, y4))) rfl rfl (by first | exact runs0 | exact runs1 rfl) rfl (by first | exact mono_eq | exact (fun _ _ _ h k => Rd.ext h k) | exact (fun _ _ _ h k => RB.ext h k) | exact (fun _ _ _ h k => OB.ext h k) | exact (fun _ _ _ h k => RB.extS h k) | exact (fun _ _ _ h k => Rd.ext h (GrownW.ext k)) | exact (fun _ _ _ h k => RP.ext h k) | exact (fun _ _ _ h k => OP.ext h k) | exact (fun _ _ _ h k => Rd.extV h k) | exact (fun _ _ _ h k => RB.extV h k) | exact (fun _ _ _ h k => E0.ext h k) | exact (fun _ _ _ h k => O0.ext h k) | exact (fun _ _ _ h k => RE.ext h k) | exact (fun _ _ _ h k => RE.extD h k) | exact (fun _ _ _ h _ => h) | exact (fun _ _ _ ⟨n, h1, h2⟩ k => ⟨n, h1, k.st _ _ h2⟩)) ?_ ?_
  · intro a w' hR h1 h2 K hK
    have e1 : _ = _ := h1
    have e2 : _ = _ := h2
    go_simp
    refine (compare_grown (x3, x4) (y3, y4) w').mono ?_
    rintro e w2 ⟨rfl, hg⟩
    exact hK _ _ hg rfl
  refine wpY_call (fun v w2 => Rd w2 1 v 2 [.int .i64 (Mom.cmp (x1, x2) (y1, y2)), .int .i64 (Mom.cmp (x3, x4) (y3, y4))]) rfl rfl (by first | exact runs0 | exact runs1 rfl) rfl (by first | exact mono_eq | exact (fun _ _ _ h k => Rd.ext h k) | exact (fun _ _ _ h k => RB.ext h k) | exact (fun _ _ _ h k => OB.ext h k) | exact (fun _ _ _ h k => RB.extS h k) | exact (fun _ _ _ h k => Rd.ext h (GrownW.ext k)) | exact (fun _ _ _ h k => RP.ext h k) | exact (fun _ _ _ h k => OP.ext h k) | exact (fun _ _ _ h k => Rd.extV h k) | exact (fun _ _ _ h k => RB.extV h k) | exact (fun _ _ _ h k => E0.ext h k) | exact (fun _ _ _ h k => O0.ext h k) | exact (fun _ _ _ h k => RE.ext h k) | exact (fun _ _ _ h k => RE.extD h k) | exact (fun _ _ _ h _ => h) | exact (fun _ _ _ ⟨n, h1, h2⟩ k => ⟨n, h1, k.st _ _ h2⟩)) ?_ ?_
  · intro a w' hR h1 h2 K hK
    have e1 : _ = _ := h1
    have e2 : _ = _ := h2
    have q1 : a.tmps[9]?.getD undef = .int .i64 (Mom.cmp (x1, x2) (y1, y2)) := by simpa using e1
    have q2 : a.tmps[14]?.getD undef = .int .i64 (Mom.cmp (x3, x4) (y3, y4)) := by simpa using e2
    go_simp
    exact hK _ _ ((GrownW.refl _).alloc _) (Rd.lit _ #[.int .i64 (Mom.cmp (x1, x2) (y1, y2)), .int .i64 (Mom.cmp (x3, x4) (y3, y4))] _ 2 rfl (by unfold maxLen; omega))
  refine wpY_call (fun v _ => v = .int .i64 (orI (Mom.cmp (x1, x2) (y1, y2)) (Mom.cmp (x3, x4) (y3, y4)))) rfl rfl (by first | exact runs0 | exact runs1 rfl) rfl (by first | exact mono_eq | exact (fun _ _ _ h k => Rd.ext h k) | exact (fun _ _ _ h k => RB.ext h k) | exact (fun _ _ _ h k => OB.ext h k) | exact (fun _ _ _ h k => RB.extS h k) | exact (fun _ _ _ h k => Rd.ext h (GrownW.ext k)) | exact (fun _ _ _ h k => RP.ext h k) | exact (fun _ _ _ h k => OP.ext h k) | exact (fun _ _ _ h k => Rd.extV h k) | exact (fun _ _ _ h k => RB.extV h k) | exact (fun _ _ _ h k => E0.ext h k) | exact (fun _ _ _ h k => O0.ext h k) | exact (fun _ _ _ h k => RE.ext h k) | exact (fun _ _ _ h k => RE.extD h k) | exact (fun _ _ _ h _ => h) | exact (fun _ _ _ ⟨n, h1, h2⟩ k => ⟨n, h1, k.st _ _ h2⟩)) ?_ ?_
  · intro a w' hR h1 K hK
    obtain ⟨x, ex, fx⟩ : ∃ x, a.tmps.getD 15 undef = x ∧ (fun v w2 => Rd w2 1 v 2 [.int .i64 (Mom.cmp (x1, x2) (y1, y2)), .int .i64 (Mom.cmp (x3, x4) (y3, y4))]) x w' := ⟨_, rfl, h1⟩
    go_simp
    refine (or_any _ _ _ w' fx).mono ?_
    rintro e w2 ⟨rfl, rfl⟩
    exact hK _ _ (GrownW.refl _) rfl
  repeat (first | (refine wpY_move0 rfl rfl (by first | exact runs0 | exact runs1 rfl) GrownW.refl rfl rfl rfl ?_; apply Exists.intro; refine ⟨?_, ?_⟩; · (go_simp; rfl)) | (refine wpY_move rfl rfl (by first | exact runs0 | exact runs1 rfl) GrownW.refl rfl rfl rfl (fun _ _ _ h _ => h) ?_) | (refine wpY_val rfl rfl (by first | exact runs0 | exact runs1 rfl) GrownW.refl rfl ?_; apply Exists.intro; refine ⟨?_, ?_⟩; · (intro a w' hR; intro h1; (first | (have e1 : _ = _ := h1) | skip); intro h2; (first | (have e2 : _ = _ := h2) | skip); go_simp; rfl)) | (refine wpY_val rfl rfl (by first | exact runs0 | exact runs1 rfl) GrownW.refl rfl ?_; apply Exists.intro; refine ⟨?_, ?_⟩; · (intro a w' hR; intro h1; (first | (have e1 : _ = _ := h1) | skip); go_simp; rfl)) | (refine wpY_val rfl rfl (by first | exact runs0 | exact runs1 rfl) GrownW.refl rfl ?_; apply Exists.intro; refine ⟨?_, ?_⟩; · (intro a w' hR; go_simp; rfl)) | (refine wpY_val rfl rfl (by first | exact runs0 | exact runs1 rfl) GrownW.refl rfl ?_; apply Exists.intro; refine ⟨?_, ?_⟩; · (intro a w' hR; intro h1; (first | (have e1 : _ = _ := h1) | skip); intro h2; (first | (have e2 : _ = _ := h2) | skip); intro h3; (first | (have e3 : _ = _ := h3) | skip); go_simp; rfl)) | (refine wpY_skip rfl rfl (by first | exact .inl rfl | exact .inr rfl) ?_))
  refine wpY_done ?_
  intro w5 hx5 hS
  iterate 10 (rintro _ rfl)
  iterate 1 (intro _ hz; clear hz)
  iterate 2 (rintro _ rfl)
  dsimp only [FinV]
  go_simp
  go_wp2
  go_ret
  rw [HC.out]
  exact ⟨rfl, hx.trans hx5⟩
theorem compareE_any (x y : Ent.E) (w : World) : Calls Try.prog 31 #[entV x, entV y] w fun e w' => e = .returned (.int .i64 (Ent.cmp x y)) ∧ Ext w w' :=
  (compareE_grown x y w).mono fun _ _ ⟨h, k⟩ => ⟨h, k.ext⟩
set_option maxRecDepth 100000 in
set_option maxHeartbeats 1000000 in
theorem rcompareE_any (x y : Ent.E) (w : World) : Calls Try.prog 35 #[entV x, entV y] w fun e w' => e = .returned (.int .i64 (Ent.cmp x y)) ∧ Ext w w' := by
  have HM := Lib.hid (fun w => Mo.rcompare_any x.1 y.1 w)
  have HR := Lib.hid (fun w => rcompare_any x.2 y.2 w)
  have HE := Lib.hid (show Ent.cmp x y = if Mom.cmp x.1 y.1 ≠ 0 then Mom.cmp x.1 y.1 else Mom.cmp x.2 y.2 from rfl)
  generalize Ent.cmp x y = oe at *
  generalize Mom.cmp x.1 y.1 = k1 at *
  generalize Mom.cmp x.2 y.2 = k2 at *
  obtain ⟨⟨x1, x2⟩, x3, x4⟩ := x
  obtain ⟨⟨y1, y2⟩, y3, y4⟩ := y
  dsimp only at *
  go_enter Try.func35, Try.ntmps35
  go_upto_region 1 with fail
  obtain ⟨w2, hw2, hx, c0, c1, c2, c3, d0, d1, d2, d3⟩ := box4 w 33 (.int .i64 x1) (.int .i64 x2) (.int .i64 x3) (.int .i64 x4) (.int .i64 y1) (.int .i64 y2) (.int .i64 y3) (.int .i64 y4)
  rw [← hw2]
  clear hw2
  have HX := Lib.hid hx.ext
  generalize w.heap.size = n at *
  clear hx
  by_cases h0 : k1 = 0
  · have hoe := HE.out
    rw [if_neg (by simpa using h0)] at hoe
    subst h0 hoe
    go_wp2_with fail
    refine (HM.out _).mono ?_
    rintro e w3 ⟨rfl, he3⟩
    have c2 := he3.cell c2
    have c3 := he3.cell c3
    have d2 := he3.cell d2
    have d3 := he3.cell d3
    go_wp2_with fail
    refine (HR.out _).mono ?_
    rintro e w4 ⟨rfl, he4⟩
    go_wp2
    go_ret
    exact ⟨rfl, (HX.out.trans he3).trans he4⟩
  · have hn : (k1 != 0) = true := by simpa using h0
    have hoe := HE.out
    rw [if_pos h0] at hoe
    subst hoe
    clear h0
    go_wp2_with fail
    refine (HM.out _).mono ?_
    rintro e w3 ⟨rfl, he3⟩
    go_wp2
    go_ret
    exact ⟨rfl, HX.out.trans he3⟩
end Go.Proofs.Ytbokblklldphgaa
