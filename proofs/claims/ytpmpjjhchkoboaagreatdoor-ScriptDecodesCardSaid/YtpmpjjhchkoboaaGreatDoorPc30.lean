/-
  ScrRdA, packed: what the claim needs of them.
-/
import Derived.Test.YtpmpjjhchkoboaaGreatDoorPc29
open Go.Lib (hid)
set_option linter.unusedSimpArgs false
set_option linter.unusedVariables false
set_option maxRecDepth 100000
namespace Go.Proofs.YtpmpjjhchkoboaaGreatDoor
open Go.RowKit Go.Ox Go.Ox.Gr Go.Ox.Sc
section
variable {Q : Nat → Prop} {w w' : World} {q : Nat} {T : TypeId} {a0 a1 a2 a3 a4 a5 a6 a7 v0 v1 v2 v3 v4 v5 v6 v7 : Value}
theorem Bx6.set6 (h : Bx6 w q T a0 a1 a2 a3 a4 a5) : Bx6 ((((((w.setCell ⟨q, 0, none⟩ v0).setCell ⟨q, 1, none⟩ v1).setCell ⟨q, 2, none⟩ v2).setCell ⟨q, 3, none⟩ v3).setCell ⟨q, 4, none⟩ v4).setCell ⟨q, 5, none⟩ v5) q T v0 v1 v2 v3 v4 v5 :=
 ⟨by simpa using (((((h.b.set_ 0 v0).set_ 1 v1).set_ 2 v2).set_ 3 v3).set_ 4 v4).set_ 5 v5⟩
theorem Bx8.set8 (h : Bx8 w q T a0 a1 a2 a3 a4 a5 a6 a7) : Bx8 ((((((((w.setCell ⟨q, 0, none⟩ v0).setCell ⟨q, 1, none⟩ v1).setCell ⟨q, 2, none⟩ v2).setCell ⟨q, 3, none⟩ v3).setCell ⟨q, 4, none⟩ v4).setCell ⟨q, 5, none⟩ v5).setCell ⟨q, 6, none⟩ v6).setCell ⟨q, 7, none⟩ v7) q T v0 v1 v2 v3 v4 v5 v6 v7 :=
 ⟨by simpa using (((((((h.b.set_ 0 v0).set_ 1 v1).set_ 2 v2).set_ 3 v3).set_ 4 v4).set_ 5 v5).set_ 6 v6).set_ 7 v7⟩
theorem extQ_set6 (w : World) (q : Nat) : ExtQ (fun k => k = q) w ((((((w.setCell ⟨q, 0, none⟩ v0).setCell ⟨q, 1, none⟩ v1).setCell ⟨q, 2, none⟩ v2).setCell ⟨q, 3, none⟩ v3).setCell ⟨q, 4, none⟩ v4).setCell ⟨q, 5, none⟩ v5) :=
 ExtQ.setCell (Q := fun k => k = q) (ExtQ.setCell (Q := fun k => k = q) (ExtQ.setCell (Q := fun k => k = q) (ExtQ.setCell (Q := fun k => k = q) (ExtQ.setCell (Q := fun k => k = q) (ExtQ.setCell (Q := fun k => k = q) (ExtQ.refl _ _) (p := ⟨q, 0, none⟩) rfl _) (p := ⟨q, 1, none⟩) rfl _) (p := ⟨q, 2, none⟩) rfl _) (p := ⟨q, 3, none⟩) rfl _) (p := ⟨q, 4, none⟩) rfl _) (p := ⟨q, 5, none⟩) rfl _
theorem extQ_set8 (w : World) (q : Nat) : ExtQ (fun k => k = q) w ((((((((w.setCell ⟨q, 0, none⟩ v0).setCell ⟨q, 1, none⟩ v1).setCell ⟨q, 2, none⟩ v2).setCell ⟨q, 3, none⟩ v3).setCell ⟨q, 4, none⟩ v4).setCell ⟨q, 5, none⟩ v5).setCell ⟨q, 6, none⟩ v6).setCell ⟨q, 7, none⟩ v7) :=
 ExtQ.setCell (Q := fun k => k = q) (ExtQ.setCell (Q := fun k => k = q) (extQ_set6 w q) (p := ⟨q, 6, none⟩) rfl _) (p := ⟨q, 7, none⟩) rfl _
theorem Bx8.extQ (h : Bx8 w q T a0 a1 a2 a3 a4 a5 a6 a7) (he : ExtQ Q w w') (hq : ¬ Q q) : Bx8 w' q T a0 a1 a2 a3 a4 a5 a6 a7 := ⟨h.b.extQ he hq⟩
end
structure ActJ (p C a qr : Nat) (k n x y t : Int) (acc : List Int) (W : World) : Prop where
 r : Blk W qr 81 #[.pointer (some ⟨p, 0, none⟩)]
 c : C ≤ W.heap.size
 s : ∃ sl, Bx6 W a 47 (.int .i64 k) (.int .i64 n) (.int .i64 x) (.int .i64 y) (.int .i64 t) sl ∧ OE 3 C W sl acc
theorem ActJ.extQ {Q : Nat → Prop} {p C a qr : Nat} {k n x y t : Int} {acc : List Int} {W W' : World} (h : ActJ p C a qr k n x y t acc W) (he : ExtQ Q W W') (h1 : ¬ Q a) (h2 : ¬ Q qr) (h3 : ∀ i, C ≤ i → ¬ Q i) : ActJ p C a qr k n x y t acc W' := by
 obtain ⟨hr, hc, sl, hb, ho⟩ := h
 exact ⟨hr.extQ he h2, Nat.le_trans hc he.size, sl, Bx6.extQ hb he h1, OE.extQ' ho he fun i hi => h3 i (ho.own.lt i hi).1⟩
attribute [local irreducible] RE OE OB RB NodesR EpR InsR ActsR RP OP
set_option maxHeartbeats 8000000 in
theorem actStep (K : Nat → Prop) (B p g C a qr : Nat) (k n x y t : Int) (ha : B ≤ a) (hq : B ≤ qr) (haq : a ≠ qr) (haC : a < C) (hqC : qr < C) :
 StepR K B p g C (fun i => i = a ∨ C ≤ i) 105 #[.pointer (some ⟨a, 0, none⟩), .pointer (some ⟨qr, 0, none⟩)] numW (ActJ p C a qr k n x y t) := by
 intro S acc W hg hj hN hl hacc
 obtain ⟨hr, hc, sl, hb, ho⟩ := hj
 obtain ⟨AO, cO, rfl⟩ := ho.re.form
 have HG := hid hg
 have HRR := hid hr
 have HQ := hid hb
 have HO := hid ho
 have HCN := hid (show B ≤ a ∧ B ≤ qr ∧ a < C ∧ a ≠ qr ∧ qr < C from ⟨ha, hq, haC, haq, hqC⟩)
 have HAC := hid hacc
 have HZ := hid hc
 have HNU := hid (fun w (h : NR K w g S.s) => num_any g S.s w h hl)
 have HPG := hid (show p < B ∧ g < B from ⟨hg.lp, hg.lg⟩)
 have HW1 := hid (show numW S = (⟨(Num.numP S.s).1, S.gb⟩, ((Num.numP S.s).2 : Int)) from rfl)
 generalize numW S = RW at *
 generalize Num.numP S.s = tt at *
 obtain ⟨sn, nn⟩ := tt
 dsimp only at *
 have HOW := hid (show (Value.slice AO acc.length cO).ownBlock ≠ some a ∧ (Value.slice AO acc.length cO).ownBlock ≠ some p ∧ (Value.slice AO acc.length cO).ownBlock ≠ some qr ∧ (Value.slice AO acc.length cO).ownBlock ≠ some g from by
  have h1 := HCN.out
  have h2 := HPG.out
  exact ⟨fun e => by have := (HO.out.own.lt _ e).1; omega, fun e => by have := (HO.out.own.lt _ e).1; omega, fun e => by have := (HO.out.own.lt _ e).1; omega, fun e => by have := (HO.out.own.lt _ e).1; omega⟩)
 have HNQ := hid (show a ≠ g ∧ a ≠ p ∧ qr ≠ g ∧ qr ≠ p from by
  have h1 := HCN.out
  have h2 := HPG.out
  exact ⟨by omega, by omega, by omega, by omega⟩)
 have HSZ := hid (show W.heap.size ≤ W.heap.size from Nat.le_refl _)
 clear hg hr hb ho hc hN hl hacc ha hq haq haC hqC
 go_enter Tryz.func105, Tryz.ntmps105
 go_upto_region 0 with fail
 refine wp_region_tailZ 10 [8, 10] [9] Ext (ExtQ (fun k => k = g ∨ (Value.slice AO acc.length cO).ownBlock = some k)) (fun w' => SRd K B p g w' S ∧ OE 3 C w' (.slice AO acc.length cO) acc) (by kernel_rfl) (by kernel_rfl) (by kernel_rfl) (by kernel_rfl) (by kernel_rfl) (by kernel_rfl) (by kernel_rfl) (by rfl) (by rfl) (by kernel_rfl) (by kernel_rfl) (by kernel_rfl) (fun _ _ _ x y => x.trans y) (ExtQ.refl _) (fun _ _ x => ExtQ.of x) Ext.refl (Ext.refl _).drew (fun _ _ x y => ⟨x.1.ext y, OE.ext x.2 y⟩) (⟨HG.out, HO.out⟩) ?_
 repeat (first | (refine wpZ_move0 rfl rfl (fun _ => (runsX rfl)) Ext.refl rfl rfl (fun _ => rfl) ?_; apply Exists.intro; refine ⟨?_, ?_⟩; · (go_simp; rfl)) | (refine wpZ_val rfl rfl (fun _ => (runsX rfl)) Ext.refl rfl ?_; apply Exists.intro; refine ⟨?_, ?_⟩; · (intro c a w' hR; (try (intro h1; try have e1 : _ = _ := h1)); (try (intro h2; try have e2 : _ = _ := h2)); (try (intro h3; try have e3 : _ = _ := h3)); go_simp; rfl)))
 refine wpZ_val rfl rfl (fun _ => (runsX rfl)) Ext.refl rfl ?_; apply Exists.intro; refine ⟨?_, ?_⟩
 · intro c a w' hR h1
   have e1 : _ = _ := h1
   have hl1 := (HQ.out.b.extQ hR (notQ HNQ.out.1 HOW.out.1)).cell 5
   go_simp
   rfl
 refine wpZ_val rfl rfl (fun _ => (runsX rfl)) Ext.refl rfl ?_; apply Exists.intro; refine ⟨?_, ?_⟩
 · intro c a w' hR h1
   have e1 : _ = _ := h1
   have hl1 := (HRR.out.extQ hR (notQ HNQ.out.2.2.1 HOW.out.2.2.1)).cell 0
   go_simp
   rfl
 repeat (first | (refine wpZ_move0 rfl rfl (fun _ => (runsX rfl)) Ext.refl rfl rfl (fun _ => rfl) ?_; apply Exists.intro; refine ⟨?_, ?_⟩; · (go_simp; rfl)) | (refine wpZ_val rfl rfl (fun _ => (runsX rfl)) Ext.refl rfl ?_; apply Exists.intro; refine ⟨?_, ?_⟩; · (intro c a w' hR; (try (intro h1; try have e1 : _ = _ := h1)); (try (intro h2; try have e2 : _ = _ := h2)); (try (intro h3; try have e3 : _ = _ := h3)); go_simp; rfl)))
 refine wpZ_val rfl rfl (fun _ => (runsX rfl)) Ext.refl rfl ?_; apply Exists.intro; refine ⟨?_, ?_⟩
 · intro c a w' hR h1
   have e1 : _ = _ := h1
   have hl1 := (HG.out.blk.extQ hR (notQ HG.out.ne HOW.out.2.1)).cell 0
   go_simp
   rfl
 refine wpZ_eff (fun c v _ => v = .int .i64 (nn : Nat)) (fun w' => SRd K B p g w' ⟨sn, S.gb⟩ ∧ OE 3 C w' (.slice AO acc.length cO) acc) rfl (runsX rfl) rfl (keptC_eq) (fun _ _ x y => ⟨x.1.ext y, OE.ext x.2 y⟩) ?_ ?_
 · intro a w' hR hS h1 K hK
   have e1 : _ = _ := h1
   go_simp
   refine (HNU.out w' hS.1.nr).mono ?_
   rintro e w3 ⟨rfl, hr3, he3⟩
   exact hK _ _ (ExtQ.extG he3 (.inl rfl)) ⟨hS.1.num hr3 he3, OE.extQ' hS.2 (ExtQ.extG (Q := fun k => k = g) he3 rfl) (fun i hi e => HOW.out.2.2.2 (by rw [hi, e]))⟩ rfl
 refine wpZ_callA (fun c v w => 1 ≤ c ∧ (c ≤ 1 → RE w v [(nn : Int)])) rfl rfl (runsX rfl) rfl (keptC_at fun _ _ _ h k => RE.ext h k) ?_ ?_
 · intro a w' hR hS h1 K hK
   have e1 : _ = _ := h1
   have q1 : a.tmps[8]?.getD undef = .int .i64 (nn : Nat) := by rw [← Array.getD_eq_getD_getElem?]; exact e1
   go_simp
   exact hK _ _ ((Ext.refl _).alloc _) ⟨Nat.le_refl _, fun _ => reI_lit _ _⟩
 refine wpZ_eff (fun c v w => 2 ≤ c ∧ (c ≤ 2 → OE 3 C w v (acc ++ [(nn : Int)]))) (fun w' => SRd K B p g w' ⟨sn, S.gb⟩) rfl (runsX rfl) rfl (keptC_at fun _ _ _ h k => OE.ext h k) (fun _ _ x y => x.ext y) ?_ ?_
 · intro a w' hR hS h1 h2 K hK
   have e1 : _ = _ := h1
   obtain ⟨y, ey, fy⟩ : ∃ x, a.tmps.getD 9 undef = x ∧ (fun v w => 1 ≤ 0 + 1 ∧ (0 + 1 ≤ 1 → RE w v [(nn : Int)])) x w' := ⟨_, rfl, h2⟩
   refine wp_app elemI w' (.tmp 3) (.tmp 9) rfl C _ acc.length (eV acc) e1 hS.2.own _ 1 (eV [(nn : Int)]) ey (fy.2 (Nat.le_refl _)).rd (one_eV _) (by have := HAC.out; omega) (by have := HAC.out; unfold maxLen; omega) (by have h1 := HZ.out; have h2 := hR.size; omega) ?_
   intro v' w3 ha
   exact hK _ _ (ExtQ.grown ha.grown (fun i hi => .inr hi)) (hS.1.extQ (ExtQ.grown ha.grown (fun i hi => by have h1 := (HO.out.own.lt i hi).1; have h2 := HCN.out; show B ≤ i; omega))) ⟨Nat.le_refl _, fun _ => OE.app' ha⟩
 repeat (first | (refine wpZ_move0 rfl rfl (fun _ => (runsX rfl)) Ext.refl rfl rfl (fun _ => rfl) ?_; apply Exists.intro; refine ⟨?_, ?_⟩; · (go_simp; rfl)) | (refine wpZ_val rfl rfl (fun _ => (runsX rfl)) Ext.refl rfl ?_; apply Exists.intro; refine ⟨?_, ?_⟩; · (intro c a w' hR; (try (intro h1; try have e1 : _ = _ := h1)); (try (intro h2; try have e2 : _ = _ := h2)); (try (intro h3; try have e3 : _ = _ := h3)); go_simp; rfl)))
 refine wpZ_done ?_
 intro w6 hx6 hS6
 iterate 7 (rintro _ rfl)
 rintro v9 h9
 rintro v10 h10
 rintro _ rfl
 dsimp only [FinV]
 go_simp
 have ho6 := h10.2 (Nat.le_refl _)
 obtain ⟨A6, c6, hv6⟩ := ho6.re.form
 rw [List.length_append, List.length_singleton] at hv6
 subst hv6
 have HO6 := hid ho6
 have HG6 := hid (show SRd K B p g w6 ⟨sn, S.gb⟩ from hS6)
 have HX6 := hid (show ExtQ (fun k => k = g ∨ (Value.slice AO acc.length cO).ownBlock = some k) W w6 from hx6)
 have HQ6 := hid (Bx6.extQ HQ.out HX6.out (notQ HNQ.out.1 HOW.out.1))
 have HR6 := hid (HRR.out.extQ HX6.out (notQ HNQ.out.2.2.1 HOW.out.2.2.1))
 clear h9 h10 ho6 hS6 hx6
 have f1 : w6.frozen? ⟨a, 5, none⟩ = false := HQ6.out.b.frozen 5
 obtain ⟨b0, b1, b2, b3, b4, b5⟩ := HQ6.out.at_
 have hst : ExtQ (fun k => k = a) w6 (w6.setCell ⟨a, 5, none⟩ (.slice A6 (acc.length + 1) c6)) := ExtQ.setCell (Q := fun k => k = a) (ExtQ.refl _ _) (p := ⟨a, 5, none⟩) rfl _
 have HQ7 := hid (HQ6.out.set5 (.slice A6 (acc.length + 1) c6))
 have HR7 := hid (HR6.out.extQ hst (fun e => HCN.out.2.2.2.1 e.symm))
 have HG7 := hid (HG6.out.extQ (hst.mono fun i hi => by have h1 := HCN.out; show B ≤ i; have hi : i = a := hi; omega))
 have HO7 := hid (OE.extQ' HO6.out hst (fun i hi e => by have h1 := (HO6.out.own.lt i hi).1; have h2 := HCN.out; have e : i = a := e; omega))
 have HX7 := hid (show RN p g (fun i => i = a ∨ C ≤ i) W (w6.setCell ⟨a, 5, none⟩ (.slice A6 (acc.length + 1) c6)) from (HX6.out.mono fun i hi => by
  rcases hi with hi | hi
  · exact .inr (.inl hi)
  · exact .inr (.inr (.inr (HO.out.own.lt i hi).1))).trans (hst.mono fun i hi => .inr (.inr (.inl hi))))
 have HZ7 := hid (show C ≤ (w6.setCell ⟨a, 5, none⟩ (.slice A6 (acc.length + 1) c6)).heap.size from Nat.le_trans HZ.out (Nat.le_trans HX6.out.size hst.size))
 have HE7 := hid (show (Value.slice A6 (acc.length + 1) c6) = .slice A6 (acc ++ [(nn : Int)]).length c6 from by simp)
 clear hst
 simp only [thenTail, List.drop_succ_cons, List.drop_zero]
 go_wp2
 go_end0
 rw [HW1.out]
 exact ⟨rfl, HG7.out, ⟨HR7.out, HZ7.out, _, HQ7.out, HO7.out⟩, HX7.out⟩
theorem actP_len (S : PS) : (numW S).1.s.l.length ≤ S.s.l.length := Num.numP_len S.s
set_option maxHeartbeats 16000000 in
theorem sact_any (K : Nat → Prop) (B p g : Nat) (S : PS) (w : World) (h : SRd K B p g w S) (hB : B ≤ w.heap.size) (hl : S.s.l.length ≤ 1000000) :
 Calls Tryz.prog 56 #[.pointer (some ⟨p, 0, none⟩)] w fun e w' => ∃ u, e = .returned (actAg (actP S).2.1.1 (actP S).2.1.2.1 (actP S).2.1.2.2.1 (actP S).2.1.2.2.2.1 (actP S).2.1.2.2.2.2 u) ∧
  (∀ W, ExtQ (fun k => k < w.heap.size) w' W → RE W u (actP S).2.2) ∧ SRd K B p g w' (actP S).1 ∧ RX p g w w' := by
 have hsz : (w.alloc (.cells #[.pointer (some ⟨p, 0, none⟩)] 81)).heap.size = w.heap.size + 1 := by simp
 have hx0 := ((Ext.refl w).alloc (.cells #[.pointer (some ⟨p, 0, none⟩)] 81)).alloc (actCs 0 0 0 0 0 (.slice none 0 0))
 have HRB := hid ((Blk.new w 81 #[.pointer (some ⟨p, 0, none⟩)]).ext ((Ext.refl _).alloc (actCs 0 0 0 0 0 (.slice none 0 0))))
 have HRA := hid (Bx6.new (w.alloc (.cells #[.pointer (some ⟨p, 0, none⟩)] 81)) 47 (.int .i64 0) (.int .i64 0) (.int .i64 0) (.int .i64 0) (.int .i64 0) (.slice none 0 0))
 rw [hsz] at HRA
 have HG0 := hid (h.ext hx0)
 have HX0 := hid hx0
 have HPG := hid (show p < w.heap.size ∧ g < w.heap.size ∧ B ≤ w.heap.size from by have := h.lp; have := h.lg; exact ⟨by omega, by omega, hB⟩)
 have HP := hid (show actP S = ((rowP 256 numW ⟨(Num.numP (Num.numP (Num.numP (Num.numP (Num.numP S.s).1).1).1).1).1, S.gb⟩).1, ((((Num.numP S.s).2 : Int), ((Num.numP (Num.numP S.s).1).2 : Int), ((Num.numP (Num.numP (Num.numP S.s).1).1).2 : Int), ((Num.numP (Num.numP (Num.numP (Num.numP S.s).1).1).1).2 : Int), ((Num.numP (Num.numP (Num.numP (Num.numP (Num.numP S.s).1).1).1).1).2 : Int)), (rowP 256 numW ⟨(Num.numP (Num.numP (Num.numP (Num.numP (Num.numP S.s).1).1).1).1).1, S.gb⟩).2)) from rfl)
 generalize actP S = R at *
 have HN1 := hid (fun w (h : NR K w g S.s) => num_any g S.s w h hl)
 have hl1 := Num.numP_len S.s
 generalize Num.numP S.s = t at *
 obtain ⟨s1, n1⟩ := t
 dsimp only at *
 have HN2 := hid (fun w (h : NR K w g s1) => num_any g s1 w h (by omega))
 have hl2 := Num.numP_len s1
 generalize Num.numP s1 = t at *
 obtain ⟨s2, n2⟩ := t
 dsimp only at *
 have HN3 := hid (fun w (h : NR K w g s2) => num_any g s2 w h (by omega))
 have hl3 := Num.numP_len s2
 generalize Num.numP s2 = t at *
 obtain ⟨s3, n3⟩ := t
 dsimp only at *
 have HN4 := hid (fun w (h : NR K w g s3) => num_any g s3 w h (by omega))
 have hl4 := Num.numP_len s3
 generalize Num.numP s3 = t at *
 obtain ⟨s4, n4⟩ := t
 dsimp only at *
 have HN5 := hid (fun w (h : NR K w g s4) => num_any g s4 w h (by omega))
 have hl5 := Num.numP_len s4
 generalize Num.numP s4 = t at *
 obtain ⟨s5, n5⟩ := t
 dsimp only at *
 have HL5 := hid (show s5.l.length ≤ 1000000 by omega)
 have eg2 : ∀ args w, (callFunc 105 args).run Tryz.prog w = .ok (.enter 105 args) w := enters_of Tryz.func105 (by kernel_rfl) rfl
 have HEG := hid eg2
 clear h hB hl hsz hx0 hl1 hl2 hl3 hl4 hl5 eg2
 go_enter Tryz.func56, Tryz.ntmps56
 go_upto_region 1 with fail
 obtain ⟨q, hq⟩ : ∃ q, q = w.heap.size := ⟨_, rfl⟩
 rw [← hq] at HRB HRA ⊢
 have HQ := hid hq
 clear hq
 generalize (w.alloc (.cells #[.pointer (some ⟨p, 0, none⟩)] 81)).alloc (actCs 0 0 0 0 0 (.slice none 0 0)) = w0 at *
 have HNE := hid (show q ≠ g ∧ q ≠ p ∧ q + 1 ≠ g ∧ q + 1 ≠ p from by have h1 := HPG.out; have h2 := HQ.out; exact ⟨by omega, by omega, by omega, by omega⟩)
 refine wp_region_tailY 27 [8, 13, 18, 23, 28] [] Ext (ExtQ (fun k => k = g)) (fun w' => SRd K B p g w' S) (by kernel_rfl) (by kernel_rfl) (by kernel_rfl) (by kernel_rfl) (by kernel_rfl) (by kernel_rfl) (by kernel_rfl) (by rfl) (by rfl) (by kernel_rfl) (by kernel_rfl) (by kernel_rfl) (fun _ _ _ x y => x.trans y) (ExtQ.refl _) (fun _ _ x => ExtQ.of x) (Ext.refl _).drew (fun _ _ x y => x.ext y) (HG0.out) ?_
 refine wpY_val rfl rfl (runsX rfl) Ext.refl rfl ?_; apply Exists.intro; refine ⟨?_, ?_⟩
 · intro a w' hR h1
   have e1 : _ = _ := h1
   have hl1 := (HRB.out.extQ hR HNE.out.1).cell 0
   go_simp
   rfl
 repeat (first | (refine wpY_move0 rfl rfl (runsX rfl) Ext.refl rfl rfl rfl ?_; apply Exists.intro; refine ⟨?_, ?_⟩; · (go_simp; rfl)) | (refine wpY_move rfl rfl (runsX rfl) Ext.refl rfl rfl rfl (fun _ _ _ h _ => h) ?_) | (refine wpY_val rfl rfl (runsX rfl) Ext.refl rfl ?_; apply Exists.intro; refine ⟨?_, ?_⟩; · (intro a w' hR; (try (intro h1; try have e1 : _ = _ := h1)); (try (intro h2; try have e2 : _ = _ := h2)); (try (intro h3; try have e3 : _ = _ := h3)); go_simp; rfl)) | (refine wpY_skip rfl rfl (by first | exact .inl rfl | exact .inr rfl) ?_))
 refine wpY_val rfl rfl (runsX rfl) Ext.refl rfl ?_; apply Exists.intro; refine ⟨?_, ?_⟩
 · intro a w' hR h1
   have e1 : _ = _ := h1
   have hl1 := (HG0.out.blk.extQ hR HG0.out.ne).cell 0
   go_simp
   rfl
 refine wpY_eff (fun v _ => v = .int .i64 (n1 : Nat)) (fun w' => SRd K B p g w' ⟨s1, S.gb⟩) rfl (runsX rfl) rfl (by first | exact mono_eq | exact (fun _ _ _ h k => Rd.ext h k) | exact (fun _ _ _ h k => RB.ext h k) | exact (fun _ _ _ h k => OB.ext h k) | exact (fun _ _ _ h k => RB.extS h k) | exact (fun _ _ _ h k => Rd.ext h (GrownW.ext k)) | exact (fun _ _ _ h k => RP.ext h k) | exact (fun _ _ _ h k => OP.ext h k) | exact (fun _ _ _ h k => Rd.extV h k) | exact (fun _ _ _ h k => RB.extV h k) | exact (fun _ _ _ h k => E0.ext h k) | exact (fun _ _ _ h k => O0.ext h k) | exact (fun _ _ _ h k => RE.ext h k) | exact (fun _ _ _ h k => RE.extD h k) | exact (fun _ _ _ h _ => h) | exact (fun _ _ _ ⟨n, h1, h2⟩ k => ⟨n, h1, k.st _ _ h2⟩)) (fun _ _ x y => x.ext y) ?_ ?_
 · intro a w' hR hS h1 K hK
   have e1 : _ = _ := h1
   go_simp
   refine (HN1.out w' hS.nr).mono ?_
   rintro e w2 ⟨rfl, hr3, he3⟩
   exact hK _ _ (ExtQ.extG he3 rfl) (hS.num hr3 he3) rfl
 refine wpY_val rfl rfl (runsX rfl) Ext.refl rfl ?_; apply Exists.intro; refine ⟨?_, ?_⟩
 · intro a w' hR h1
   have e1 : _ = _ := h1
   have hl1 := (HRB.out.extQ hR HNE.out.1).cell 0
   go_simp
   rfl
 repeat (first | (refine wpY_move0 rfl rfl (runsX rfl) Ext.refl rfl rfl rfl ?_; apply Exists.intro; refine ⟨?_, ?_⟩; · (go_simp; rfl)) | (refine wpY_move rfl rfl (runsX rfl) Ext.refl rfl rfl rfl (fun _ _ _ h _ => h) ?_) | (refine wpY_val rfl rfl (runsX rfl) Ext.refl rfl ?_; apply Exists.intro; refine ⟨?_, ?_⟩; · (intro a w' hR; (try (intro h1; try have e1 : _ = _ := h1)); (try (intro h2; try have e2 : _ = _ := h2)); (try (intro h3; try have e3 : _ = _ := h3)); go_simp; rfl)) | (refine wpY_skip rfl rfl (by first | exact .inl rfl | exact .inr rfl) ?_))
 refine wpY_val rfl rfl (runsX rfl) Ext.refl rfl ?_; apply Exists.intro; refine ⟨?_, ?_⟩
 · intro a w' hR h1
   have e1 : _ = _ := h1
   have hl1 := (HG0.out.blk.extQ hR HG0.out.ne).cell 0
   go_simp
   rfl
 refine wpY_eff (fun v _ => v = .int .i64 (n2 : Nat)) (fun w' => SRd K B p g w' ⟨s2, S.gb⟩) rfl (runsX rfl) rfl (by first | exact mono_eq | exact (fun _ _ _ h k => Rd.ext h k) | exact (fun _ _ _ h k => RB.ext h k) | exact (fun _ _ _ h k => OB.ext h k) | exact (fun _ _ _ h k => RB.extS h k) | exact (fun _ _ _ h k => Rd.ext h (GrownW.ext k)) | exact (fun _ _ _ h k => RP.ext h k) | exact (fun _ _ _ h k => OP.ext h k) | exact (fun _ _ _ h k => Rd.extV h k) | exact (fun _ _ _ h k => RB.extV h k) | exact (fun _ _ _ h k => E0.ext h k) | exact (fun _ _ _ h k => O0.ext h k) | exact (fun _ _ _ h k => RE.ext h k) | exact (fun _ _ _ h k => RE.extD h k) | exact (fun _ _ _ h _ => h) | exact (fun _ _ _ ⟨n, h1, h2⟩ k => ⟨n, h1, k.st _ _ h2⟩)) (fun _ _ x y => x.ext y) ?_ ?_
 · intro a w' hR hS h1 K hK
   have e1 : _ = _ := h1
   go_simp
   refine (HN2.out w' hS.nr).mono ?_
   rintro e w2 ⟨rfl, hr3, he3⟩
   exact hK _ _ (ExtQ.extG he3 rfl) (hS.num hr3 he3) rfl
 refine wpY_val rfl rfl (runsX rfl) Ext.refl rfl ?_; apply Exists.intro; refine ⟨?_, ?_⟩
 · intro a w' hR h1
   have e1 : _ = _ := h1
   have hl1 := (HRB.out.extQ hR HNE.out.1).cell 0
   go_simp
   rfl
 repeat (first | (refine wpY_move0 rfl rfl (runsX rfl) Ext.refl rfl rfl rfl ?_; apply Exists.intro; refine ⟨?_, ?_⟩; · (go_simp; rfl)) | (refine wpY_move rfl rfl (runsX rfl) Ext.refl rfl rfl rfl (fun _ _ _ h _ => h) ?_) | (refine wpY_val rfl rfl (runsX rfl) Ext.refl rfl ?_; apply Exists.intro; refine ⟨?_, ?_⟩; · (intro a w' hR; (try (intro h1; try have e1 : _ = _ := h1)); (try (intro h2; try have e2 : _ = _ := h2)); (try (intro h3; try have e3 : _ = _ := h3)); go_simp; rfl)) | (refine wpY_skip rfl rfl (by first | exact .inl rfl | exact .inr rfl) ?_))
 refine wpY_val rfl rfl (runsX rfl) Ext.refl rfl ?_; apply Exists.intro; refine ⟨?_, ?_⟩
 · intro a w' hR h1
   have e1 : _ = _ := h1
   have hl1 := (HG0.out.blk.extQ hR HG0.out.ne).cell 0
   go_simp
   rfl
 refine wpY_eff (fun v _ => v = .int .i64 (n3 : Nat)) (fun w' => SRd K B p g w' ⟨s3, S.gb⟩) rfl (runsX rfl) rfl (by first | exact mono_eq | exact (fun _ _ _ h k => Rd.ext h k) | exact (fun _ _ _ h k => RB.ext h k) | exact (fun _ _ _ h k => OB.ext h k) | exact (fun _ _ _ h k => RB.extS h k) | exact (fun _ _ _ h k => Rd.ext h (GrownW.ext k)) | exact (fun _ _ _ h k => RP.ext h k) | exact (fun _ _ _ h k => OP.ext h k) | exact (fun _ _ _ h k => Rd.extV h k) | exact (fun _ _ _ h k => RB.extV h k) | exact (fun _ _ _ h k => E0.ext h k) | exact (fun _ _ _ h k => O0.ext h k) | exact (fun _ _ _ h k => RE.ext h k) | exact (fun _ _ _ h k => RE.extD h k) | exact (fun _ _ _ h _ => h) | exact (fun _ _ _ ⟨n, h1, h2⟩ k => ⟨n, h1, k.st _ _ h2⟩)) (fun _ _ x y => x.ext y) ?_ ?_
 · intro a w' hR hS h1 K hK
   have e1 : _ = _ := h1
   go_simp
   refine (HN3.out w' hS.nr).mono ?_
   rintro e w2 ⟨rfl, hr3, he3⟩
   exact hK _ _ (ExtQ.extG he3 rfl) (hS.num hr3 he3) rfl
 refine wpY_val rfl rfl (runsX rfl) Ext.refl rfl ?_; apply Exists.intro; refine ⟨?_, ?_⟩
 · intro a w' hR h1
   have e1 : _ = _ := h1
   have hl1 := (HRB.out.extQ hR HNE.out.1).cell 0
   go_simp
   rfl
 repeat (first | (refine wpY_move0 rfl rfl (runsX rfl) Ext.refl rfl rfl rfl ?_; apply Exists.intro; refine ⟨?_, ?_⟩; · (go_simp; rfl)) | (refine wpY_move rfl rfl (runsX rfl) Ext.refl rfl rfl rfl (fun _ _ _ h _ => h) ?_) | (refine wpY_val rfl rfl (runsX rfl) Ext.refl rfl ?_; apply Exists.intro; refine ⟨?_, ?_⟩; · (intro a w' hR; (try (intro h1; try have e1 : _ = _ := h1)); (try (intro h2; try have e2 : _ = _ := h2)); (try (intro h3; try have e3 : _ = _ := h3)); go_simp; rfl)) | (refine wpY_skip rfl rfl (by first | exact .inl rfl | exact .inr rfl) ?_))
 refine wpY_val rfl rfl (runsX rfl) Ext.refl rfl ?_; apply Exists.intro; refine ⟨?_, ?_⟩
 · intro a w' hR h1
   have e1 : _ = _ := h1
   have hl1 := (HG0.out.blk.extQ hR HG0.out.ne).cell 0
   go_simp
   rfl
 refine wpY_eff (fun v _ => v = .int .i64 (n4 : Nat)) (fun w' => SRd K B p g w' ⟨s4, S.gb⟩) rfl (runsX rfl) rfl (by first | exact mono_eq | exact (fun _ _ _ h k => Rd.ext h k) | exact (fun _ _ _ h k => RB.ext h k) | exact (fun _ _ _ h k => OB.ext h k) | exact (fun _ _ _ h k => RB.extS h k) | exact (fun _ _ _ h k => Rd.ext h (GrownW.ext k)) | exact (fun _ _ _ h k => RP.ext h k) | exact (fun _ _ _ h k => OP.ext h k) | exact (fun _ _ _ h k => Rd.extV h k) | exact (fun _ _ _ h k => RB.extV h k) | exact (fun _ _ _ h k => E0.ext h k) | exact (fun _ _ _ h k => O0.ext h k) | exact (fun _ _ _ h k => RE.ext h k) | exact (fun _ _ _ h k => RE.extD h k) | exact (fun _ _ _ h _ => h) | exact (fun _ _ _ ⟨n, h1, h2⟩ k => ⟨n, h1, k.st _ _ h2⟩)) (fun _ _ x y => x.ext y) ?_ ?_
 · intro a w' hR hS h1 K hK
   have e1 : _ = _ := h1
   go_simp
   refine (HN4.out w' hS.nr).mono ?_
   rintro e w2 ⟨rfl, hr3, he3⟩
   exact hK _ _ (ExtQ.extG he3 rfl) (hS.num hr3 he3) rfl
 refine wpY_val rfl rfl (runsX rfl) Ext.refl rfl ?_; apply Exists.intro; refine ⟨?_, ?_⟩
 · intro a w' hR h1
   have e1 : _ = _ := h1
   have hl1 := (HRB.out.extQ hR HNE.out.1).cell 0
   go_simp
   rfl
 repeat (first | (refine wpY_move0 rfl rfl (runsX rfl) Ext.refl rfl rfl rfl ?_; apply Exists.intro; refine ⟨?_, ?_⟩; · (go_simp; rfl)) | (refine wpY_move rfl rfl (runsX rfl) Ext.refl rfl rfl rfl (fun _ _ _ h _ => h) ?_) | (refine wpY_val rfl rfl (runsX rfl) Ext.refl rfl ?_; apply Exists.intro; refine ⟨?_, ?_⟩; · (intro a w' hR; (try (intro h1; try have e1 : _ = _ := h1)); (try (intro h2; try have e2 : _ = _ := h2)); (try (intro h3; try have e3 : _ = _ := h3)); go_simp; rfl)) | (refine wpY_skip rfl rfl (by first | exact .inl rfl | exact .inr rfl) ?_))
 refine wpY_val rfl rfl (runsX rfl) Ext.refl rfl ?_; apply Exists.intro; refine ⟨?_, ?_⟩
 · intro a w' hR h1
   have e1 : _ = _ := h1
   have hl1 := (HG0.out.blk.extQ hR HG0.out.ne).cell 0
   go_simp
   rfl
 refine wpY_eff (fun v _ => v = .int .i64 (n5 : Nat)) (fun w' => SRd K B p g w' ⟨s5, S.gb⟩) rfl (runsX rfl) rfl (by first | exact mono_eq | exact (fun _ _ _ h k => Rd.ext h k) | exact (fun _ _ _ h k => RB.ext h k) | exact (fun _ _ _ h k => OB.ext h k) | exact (fun _ _ _ h k => RB.extS h k) | exact (fun _ _ _ h k => Rd.ext h (GrownW.ext k)) | exact (fun _ _ _ h k => RP.ext h k) | exact (fun _ _ _ h k => OP.ext h k) | exact (fun _ _ _ h k => Rd.extV h k) | exact (fun _ _ _ h k => RB.extV h k) | exact (fun _ _ _ h k => E0.ext h k) | exact (fun _ _ _ h k => O0.ext h k) | exact (fun _ _ _ h k => RE.ext h k) | exact (fun _ _ _ h k => RE.extD h k) | exact (fun _ _ _ h _ => h) | exact (fun _ _ _ ⟨n, h1, h2⟩ k => ⟨n, h1, k.st _ _ h2⟩)) (fun _ _ x y => x.ext y) ?_ ?_
 · intro a w' hR hS h1 K hK
   have e1 : _ = _ := h1
   go_simp
   refine (HN5.out w' hS.nr).mono ?_
   rintro e w2 ⟨rfl, hr3, he3⟩
   exact hK _ _ (ExtQ.extG he3 rfl) (hS.num hr3 he3) rfl
 refine wpY_val rfl rfl (runsX rfl) Ext.refl rfl ?_; apply Exists.intro; refine ⟨?_, ?_⟩
 · intro a w' hR h1 h2 h3 h4 h5
   have e1 : _ = _ := h1
   have e2 : _ = _ := h2
   have e3 : _ = _ := h3
   have e4 : _ = _ := h4
   have e5 : _ = _ := h5
   have q1 := e1; rw [Array.getD_eq_getD_getElem?] at q1
   have q2 := e2; rw [Array.getD_eq_getD_getElem?] at q2
   have q3 := e3; rw [Array.getD_eq_getD_getElem?] at q3
   have q4 := e4; rw [Array.getD_eq_getD_getElem?] at q4
   have q5 := e5; rw [Array.getD_eq_getD_getElem?] at q5
   go_simp
   rfl
 refine wpY_call (fun v w' => ∃ n, v = .pointer (some ⟨n, 0, none⟩) ∧ w0.heap.size ≤ n ∧ Bx6 w' n 47 (.int .i64 0) (.int .i64 0) (.int .i64 0) (.int .i64 0) (.int .i64 0) (.slice none 0 0)) rfl rfl (runsX rfl) rfl (fun _ _ _ ⟨n, h1, h2, h3⟩ k => ⟨n, h1, h2, Bx6.extQ h3 k (fun e => by have h4 := HPG.out; have h5 := HX0.out.size; omega)⟩) ?_ ?_
 · intro a w' hR K hK
   go_simp
   exact hK _ _ ((Ext.refl _).alloc _) ⟨_, rfl, hR.size, Bx6.new _ _ _ _ _ _ _ _⟩
 refine wpY_done ?_
 intro wz hx hS
 iterate 26 (rintro _ rfl)
 rintro v3 h3
 dsimp only [FinV]
 go_simp
 obtain ⟨a, rfl, ha, hba⟩ := h3
 have HG1 := hid (show SRd K B p g wz ⟨s5, S.gb⟩ from hS)
 have HX1 := hid (show ExtQ (fun k => k = g) w0 wz from hx)
 have HA1 := hid hba
 have hq0 : q + 1 < w0.heap.size := HRA.out.b.lt
 have HAN := hid (show q + 1 < a ∧ a < wz.heap.size from ⟨by omega, hba.b.lt⟩)
 have f0 : wz.frozen? ⟨a, 0, none⟩ = false := hba.b.frozen 0
 have f1 : wz.frozen? ⟨a, 1, none⟩ = false := hba.b.frozen 1
 have f2 : wz.frozen? ⟨a, 2, none⟩ = false := hba.b.frozen 2
 have f3 : wz.frozen? ⟨a, 3, none⟩ = false := hba.b.frozen 3
 have f4 : wz.frozen? ⟨a, 4, none⟩ = false := hba.b.frozen 4
 have f5 : wz.frozen? ⟨a, 5, none⟩ = false := hba.b.frozen 5
 obtain ⟨b0, b1, b2, b3, b4, b5⟩ := hba.at_
 have hst := @extQ_set6 (.int .i64 (n1 : Nat)) (.int .i64 (n2 : Nat)) (.int .i64 (n3 : Nat)) (.int .i64 (n4 : Nat)) (.int .i64 (n5 : Nat)) (.slice none 0 0) wz a
 have HA2 := hid (@Bx6.set6 wz a 47 (.int .i64 0) (.int .i64 0) (.int .i64 0) (.int .i64 0) (.int .i64 0) (.slice none 0 0) (.int .i64 (n1 : Nat)) (.int .i64 (n2 : Nat)) (.int .i64 (n3 : Nat)) (.int .i64 (n4 : Nat)) (.int .i64 (n5 : Nat)) (.slice none 0 0) hba)
 have HG2 := hid (HG1.out.extQ (hst.mono fun i hi => by have h1 := HAN.out; have h2 := HQ.out; have h3 := HPG.out; have hi : i = a := hi; show B ≤ i; omega))
 have HX2 := hid ((HX1.out.mono fun i hi => Or.inl hi).trans (hst.mono fun i (hi : i = a) => show i = g ∨ i = a from .inr hi))
 have HS2 := hid (show wz.heap.size ≤ _ from hst.size)
 clear ha hba hx hS hq0 hst
 simp only [thenTail, List.drop_succ_cons, List.drop_zero]
 go_upto_region 2 with fail
 clear b0 b1 b2 b3 b4 b5 f0 f1 f2 f3 f4 f5
 generalize (((((wz.setCell ⟨a, 0, none⟩ (.int .i64 (n1 : Nat))).setCell ⟨a, 1, none⟩ (.int .i64 (n2 : Nat))).setCell ⟨a, 2, none⟩ (.int .i64 (n3 : Nat))).setCell ⟨a, 3, none⟩ (.int .i64 (n4 : Nat))).setCell ⟨a, 4, none⟩ (.int .i64 (n5 : Nat))).setCell ⟨a, 5, none⟩ (.slice none 0 0) = wS at *
 have HR2 := hid (HRB.out.extQ HX2.out (fun e => by have h1 := HNE.out; have h2 := HAN.out; omega))
 have HRA2 := hid (Bx6.extQ HRA.out HX2.out (fun e => by have h1 := HNE.out; have h2 := HAN.out; omega))
 have HNA := hid (show a ≠ p ∧ a ≠ g ∧ B ≤ a ∧ B ≤ q ∧ a < wS.heap.size ∧ q + 1 < wS.heap.size from by
  have h1 := HAN.out
  have h2 := HQ.out
  have h3 := HPG.out
  have h4 := HS2.out
  exact ⟨by omega, by omega, by omega, by omega, by omega, by omega⟩)
 have HC := hid (row_any K B p g wS.heap.size (fun i => i = a ∨ wS.heap.size ≤ i) numW 256 105 #[.pointer (some ⟨a, 0, none⟩), .pointer (some ⟨q, 0, none⟩)] HEG.out (ActJ p wS.heap.size a q n1 n2 n3 n4 n5)
  (actStep K B p g wS.heap.size a q n1 n2 n3 n4 n5 HNA.out.2.2.1 HNA.out.2.2.2.1 (by have := HAN.out; omega) HNA.out.2.2.2.2.1 (by have := HNA.out; omega))
  (fun acc W W' hj hx => hj.extQ hx (fun e => e.elim HNA.out.1 HNA.out.2.1) (fun e => e.elim HNE.out.2.1 HNE.out.1) (fun i hi e => by have h1 := HPG.out; have h2 := HNA.out; have h3 := HQ.out; rcases e with e | e <;> omega))
  actP_len ⟨s5, S.gb⟩ wS HG2.out (Nat.le_refl _) HL5.out ⟨HR2.out, Nat.le_refl _, _, HA2.out, OE.nilS _ _ _⟩ (Int.le_refl _))
 generalize rowP 256 numW ⟨s5, S.gb⟩ = RR at *
 obtain ⟨SR, ks⟩ := RR
 dsimp only at HC HP
 have c0 : wS.cell? ⟨q, 0, none⟩ = some (.pointer (some ⟨p, 0, none⟩)) := HR2.out.cell 0
 go_wp2_with fail
 refine HC.out.mono ?_
 rintro e w3 ⟨rfl, hg3, ⟨hr3, hc3, sl, hb3, ho3⟩, hx3⟩
 obtain ⟨AK, cK, rfl⟩ := ho3.re.form
 have HG3 := hid hg3
 have HO3 := hid ho3
 have HX3 := hid hx3
 have HRA3 := hid (Bx6.extQ HRA2.out hx3 (fun e => by have h1 := HNE.out; have h2 := HAN.out; have h3 := HNA.out; omega))
 have HRA4 := hid (@Bx6.set6 w3 (q + 1) 47 (.int .i64 0) (.int .i64 0) (.int .i64 0) (.int .i64 0) (.int .i64 0) (.slice none 0 0) (.int .i64 (n1 : Nat)) (.int .i64 (n2 : Nat)) (.int .i64 (n3 : Nat)) (.int .i64 (n4 : Nat)) (.int .i64 (n5 : Nat)) (.slice AK ks.length cK) HRA3.out)
 have hst := @extQ_set6 (.int .i64 (n1 : Nat)) (.int .i64 (n2 : Nat)) (.int .i64 (n3 : Nat)) (.int .i64 (n4 : Nat)) (.int .i64 (n5 : Nat)) (.slice AK ks.length cK) w3 (q + 1)
 have HG4 := hid (hg3.extQ (hst.mono fun i hi => by have h1 := HNA.out; have hi : i = q + 1 := hi; show B ≤ i; omega))
 have HX4 := hid (show RX p g w _ from by
  have x1 : ExtQ (fun k => k = p ∨ k = g ∨ w.heap.size ≤ k) w w0 := ExtQ.of HX0.out
  have x2 := x1.trans (HX2.out.mono fun i hi => by
   rcases hi with hi | hi
   · exact .inr (.inl hi)
   · exact .inr (.inr (by have h1 := HAN.out; have h2 := HQ.out; omega)))
  have x3 := x2.trans (hx3.mono fun i hi => by
   rcases hi with hi | hi | hi
   · exact .inl hi
   · exact .inr (.inl hi)
   · exact .inr (.inr (by have h1 := HAN.out; have h2 := HQ.out; have h3 := HNA.out; rcases hi with hi | hi <;> omega)))
  have x4 := x3.trans (hst.mono fun i (hi : i = q + 1) => show i = p ∨ i = g ∨ w.heap.size ≤ i from .inr (.inr (by have h2 := HQ.out; omega)))
  exact x4.mono' fun i hi hq => by
   rcases hq with hq | hq | hq
   · exact .inl hq
   · exact .inr hq
   · omega)
 have HST := hid (show ∀ W, ExtQ (fun k => k < w.heap.size) _ W → RE W (.slice AK ks.length cK) ks from fun W hW =>
  (OE.extQ' (OE.extQ' HO3.out hst (fun i hi (e : i = q + 1) => by have h1 := (HO3.out.own.lt i hi).1; have h2 := HNA.out; omega)) hW (fun i hi (e : i < w.heap.size) => by have h1 := (HO3.out.own.lt i hi).1; have h2 := HNA.out; have h3 := HQ.out; omega)).re)
 have f0 : w3.frozen? ⟨q + 1, 0, none⟩ = false := HRA3.out.b.frozen 0
 have f1 : w3.frozen? ⟨q + 1, 1, none⟩ = false := HRA3.out.b.frozen 1
 have f2 : w3.frozen? ⟨q + 1, 2, none⟩ = false := HRA3.out.b.frozen 2
 have f3 : w3.frozen? ⟨q + 1, 3, none⟩ = false := HRA3.out.b.frozen 3
 have f4 : w3.frozen? ⟨q + 1, 4, none⟩ = false := HRA3.out.b.frozen 4
 have f5 : w3.frozen? ⟨q + 1, 5, none⟩ = false := HRA3.out.b.frozen 5
 obtain ⟨z0, z1, z2, z3, z4, z5⟩ := hb3.at_
 obtain ⟨b0, b1, b2, b3, b4, b5⟩ := HRA3.out.at_
 clear hg3 hr3 hc3 hb3 ho3 hx3 hst c0
 go_wp2
 generalize (((((w3.setCell ⟨q + 1, 0, none⟩ (.int .i64 (n1 : Nat))).setCell ⟨q + 1, 1, none⟩ (.int .i64 (n2 : Nat))).setCell ⟨q + 1, 2, none⟩ (.int .i64 (n3 : Nat))).setCell ⟨q + 1, 3, none⟩ (.int .i64 (n4 : Nat))).setCell ⟨q + 1, 4, none⟩ (.int .i64 (n5 : Nat))).setCell ⟨q + 1, 5, none⟩ (.slice AK ks.length cK) = w4 at *
 obtain ⟨y0, y1, y2, y3, y4, y5⟩ := HRA4.out.at_
 obtain rfl := HP.out
 exact bodyPost_ret (v := actAg (n1 : Nat) (n2 : Nat) (n3 : Nat) (n4 : Nat) (n5 : Nat) (.slice AK ks.length cK)) (by simp [results, Tryz.results56, go_sem, y0, y1, y2, y3, y4, y5]) rfl
  ⟨_, rfl, HST.out, HG4.out, HX4.out⟩
end Go.Proofs.YtpmpjjhchkoboaaGreatDoor
