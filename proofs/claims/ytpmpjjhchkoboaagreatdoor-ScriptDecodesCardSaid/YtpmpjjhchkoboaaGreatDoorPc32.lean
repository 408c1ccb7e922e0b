/-
  ScrRdD, packed: what the claim needs of them.
-/
import Derived.Test.YtpmpjjhchkoboaaGreatDoorPc31
open Go.Lib (hid)
set_option linter.unusedSimpArgs false
set_option linter.unusedVariables false
set_option maxRecDepth 100000
namespace Go.Proofs.YtpmpjjhchkoboaaGreatDoor
open Go.RowKit Go.Ox Go.Ox.Gr Go.Ox.Sc
def ActSt (N : Nat) (y : Sc.Act) (v : Value) (w : World) : Prop := ∃ u, v = actAg y.1.1 y.1.2.1 y.1.2.2.1 y.1.2.2.2.1 y.1.2.2.2.2 u ∧ ∀ W, ExtQ (fun k => k < N) w W → RE W u y.2
theorem ActSt.ext {N : Nat} {y : Sc.Act} {v : Value} {w w' : World} (h : ActSt N y v w) (he : Ext w w') : ActSt N y v w' := by
 obtain ⟨u, h1, h2⟩ := h
 exact ⟨u, h1, fun W hW => h2 W ((ExtQ.of he).trans hW)⟩
section
variable {w : World} {q : Nat} {T : TypeId} {a0 a1 a2 a3 a4 a5 a6 a7 v : Value}
theorem Bx8.set_6 (h : Bx8 w q T a0 a1 a2 a3 a4 a5 a6 a7) (v : Value) : Bx8 (w.setCell ⟨q, 6, none⟩ v) q T a0 a1 a2 a3 a4 a5 v a7 := ⟨by simpa using h.b.set_ 6 v⟩
theorem Bx8.set_7 (h : Bx8 w q T a0 a1 a2 a3 a4 a5 a6 a7) (v : Value) : Bx8 (w.setCell ⟨q, 7, none⟩ v) q T a0 a1 a2 a3 a4 a5 a6 v := ⟨by simpa using h.b.set_ 7 v⟩
end
structure InsJ (p C o qr : Nat) (k0 k1 k2 k3 : Int) (nv : Value) (out : Int) (av : Value) (acc : List (List Bag)) (W : World) : Prop where
 r : Blk W qr 81 #[.pointer (some ⟨p, 0, none⟩)]
 c : C ≤ W.heap.size
 s : ∃ iv, Bx8 W o 30 (.int .i64 k0) (.int .i64 k1) (.int .i64 k2) (.int .i64 k3) nv (.int .i64 out) iv av ∧ OS (fun k => k < C) 51 1 C EpQ W iv acc
theorem InsJ.extQ {Q : Nat → Prop} {p C o qr : Nat} {k0 k1 k2 k3 : Int} {nv : Value} {out : Int} {av : Value} {acc : List (List Bag)} {W W' : World} (h : InsJ p C o qr k0 k1 k2 k3 nv out av acc W) (he : ExtQ Q W W') (h1 : ¬ Q o) (h2 : ¬ Q qr) (h3 : ∀ i, Q i → i < C) : InsJ p C o qr k0 k1 k2 k3 nv out av acc W' := by
 obtain ⟨hr, hc, sl, hb, ho⟩ := h
 exact ⟨hr.extQ he h2, Nat.le_trans hc he.size, sl, hb.extQ he h1, ho.extQ he (fun j hj => .inl (h3 j hj)) (fun g hg q => by have := (ho.lt hg).1; have q : g < C := q; omega)⟩
structure ActsJ (p C o qr : Nat) (k0 k1 k2 k3 : Int) (nv : Value) (out : Int) (iv : Value) (acc : List Sc.Act) (W : World) : Prop where
 r : Blk W qr 81 #[.pointer (some ⟨p, 0, none⟩)]
 c : C ≤ W.heap.size
 s : ∃ av, Bx8 W o 30 (.int .i64 k0) (.int .i64 k1) (.int .i64 k2) (.int .i64 k3) nv (.int .i64 out) iv av ∧ OS (fun k => k < C) 47 6 C ActQ W av acc
theorem ActsJ.extQ {Q : Nat → Prop} {p C o qr : Nat} {k0 k1 k2 k3 : Int} {nv : Value} {out : Int} {iv : Value} {acc : List Sc.Act} {W W' : World} (h : ActsJ p C o qr k0 k1 k2 k3 nv out iv acc W) (he : ExtQ Q W W') (h1 : ¬ Q o) (h2 : ¬ Q qr) (h3 : ∀ i, Q i → i < C) : ActsJ p C o qr k0 k1 k2 k3 nv out iv acc W' := by
 obtain ⟨hr, hc, sl, hb, ho⟩ := h
 exact ⟨hr.extQ he h2, Nat.le_trans hc he.size, sl, hb.extQ he h1, ho.extQ he (fun j hj => .inl (h3 j hj)) (fun g hg q => by have := (ho.lt hg).1; have q : g < C := q; omega)⟩
theorem act_one (k n x y t : Int) (A : Option Addr) (m c : Nat) : ∀ u ∈ (#[.int .i64 k, .int .i64 n, .int .i64 x, .int .i64 y, .int .i64 t, .slice A m c] : Array Value).toList, u.oneCell' = true := by
 intro u hu
 simp at hu
 rcases hu with rfl | rfl | rfl | rfl | rfl | rfl <;> rfl
attribute [local irreducible] RE OE OB RB NodesR EpR InsR ActsR RP OP
set_option maxHeartbeats 8000000 in
theorem insStep (K : Nat → Prop) (B p g C o qr : Nat) (k0 k1 k2 k3 : Int) (nv : Value) (out : Int) (av : Value) (ha : B ≤ o) (hq : B ≤ qr) (haq : o ≠ qr) (haC : o < C) (hqC : qr < C) :
 StepR K B p g C (fun i => i = o ∨ C ≤ i) 53 #[.pointer (some ⟨o, 0, none⟩), .pointer (some ⟨qr, 0, none⟩)] epP (InsJ p C o qr k0 k1 k2 k3 nv out av) := by
 intro S acc W hg hj hN hl hacc
 obtain ⟨hr, hc, sl, hb, ho⟩ := hj
 obtain ⟨AO, cO, rfl⟩ := ho.form
 have HG := hid hg
 have HRR := hid hr
 have HQ := hid hb
 have HO := hid ho
 have HCN := hid (show B ≤ o ∧ B ≤ qr ∧ o < C ∧ o ≠ qr ∧ qr < C from ⟨ha, hq, haC, haq, hqC⟩)
 have HAC := hid hacc
 have HZ := hid hc
 have HPG := hid (show p < B ∧ g < B from ⟨hg.lp, hg.lg⟩)
 have HNU := hid (fun w (h : SRd K B p g w S) (hB : B ≤ w.heap.size) => sepoch_any K B p g S w h hB hl)
 generalize epP S = RW at *
 obtain ⟨SN, y⟩ := RW
 dsimp only at *
 have HOW := hid (show (Value.slice AO acc.length cO).ownBlock ≠ some o ∧ (Value.slice AO acc.length cO).ownBlock ≠ some p ∧ (Value.slice AO acc.length cO).ownBlock ≠ some qr ∧ (Value.slice AO acc.length cO).ownBlock ≠ some g from by
  have h1 := HCN.out
  have h2 := HPG.out
  exact ⟨fun e => by have := (HO.out.lt e).1; omega, fun e => by have := (HO.out.lt e).1; omega, fun e => by have := (HO.out.lt e).1; omega, fun e => by have := (HO.out.lt e).1; omega⟩)
 have HNQ := hid (show o ≠ g ∧ o ≠ p ∧ qr ≠ g ∧ qr ≠ p from by
  have h1 := HCN.out
  have h2 := HPG.out
  exact ⟨by omega, by omega, by omega, by omega⟩)
 have HQ3 := hid (show ∀ q, q ≠ p → q ≠ g → (Value.slice AO acc.length cO).ownBlock ≠ some q → ¬ (q = p ∨ q = g ∨ (Value.slice AO acc.length cO).ownBlock = some q) from fun q h1 h2 h3 h => by rcases h with h | h | h; exact h1 h; exact h2 h; exact h3 h)
 have HPC := hid (show ∀ i, (i = p ∨ i = g) → i < C from fun i hi => by have h1 := HPG.out; have h2 := HCN.out; rcases hi with hi | hi <;> omega)
 have HMK := hid (fun (W' : World) (hs : W.heap.size ≤ W'.heap.size) (V : World) (hV : ExtQ (MayK (fun k => k < C) (.slice AO acc.length cO) W') W' V) => show ExtQ (fun k => k < W.heap.size) W' V from hV.mono' fun i hi hq => by
  rcases hq with hq | hq | hq
  · exact Nat.lt_of_lt_of_le hq HZ.out
  · exact (HO.out.lt hq).2
  · omega)
 clear hg hr hb ho hc hN hl hacc ha hq haq haC hqC
 go_enter Tryz.func53, Tryz.ntmps53
 go_upto_region 0 with fail
 refine wp_region_tailZ 7 [5, 7] [6] Ext (ExtQ (fun k => k = p ∨ k = g ∨ (Value.slice AO acc.length cO).ownBlock = some k)) (fun w' => SRd K B p g w' S ∧ OS (fun k => k < C) 51 1 C EpQ w' (.slice AO acc.length cO) acc) (by kernel_rfl) (by kernel_rfl) (by kernel_rfl) (by kernel_rfl) (by kernel_rfl) (by kernel_rfl) (by kernel_rfl) (by rfl) (by rfl) (by kernel_rfl) (by kernel_rfl) (by kernel_rfl) (fun _ _ _ x y => x.trans y) (ExtQ.refl _) (fun _ _ x => ExtQ.of x) Ext.refl (Ext.refl _).drew (fun _ _ x y => ⟨x.1.ext y, x.2.ext y⟩) (⟨HG.out, HO.out⟩) ?_
 repeat (first | (refine wpZ_move0 rfl rfl (fun _ => (runsX rfl)) Ext.refl rfl rfl (fun _ => rfl) ?_; apply Exists.intro; refine ⟨?_, ?_⟩; · (go_simp; rfl)) | (refine wpZ_val rfl rfl (fun _ => (runsX rfl)) Ext.refl rfl ?_; apply Exists.intro; refine ⟨?_, ?_⟩; · (intro c a w' hR; (try (intro h1; try have e1 : _ = _ := h1)); (try (intro h2; try have e2 : _ = _ := h2)); (try (intro h3; try have e3 : _ = _ := h3)); go_simp; rfl)))
 refine wpZ_val rfl rfl (fun _ => (runsX rfl)) Ext.refl rfl ?_; apply Exists.intro; refine ⟨?_, ?_⟩
 · intro c a w' hR h1
   have e1 : _ = _ := h1
   have hl1 := (HQ.out.b.extQ hR (HQ3.out _ HNQ.out.2.1 HNQ.out.1 HOW.out.1)).cell 6
   go_simp
   rfl
 refine wpZ_val rfl rfl (fun _ => (runsX rfl)) Ext.refl rfl ?_; apply Exists.intro; refine ⟨?_, ?_⟩
 · intro c a w' hR h1
   have e1 : _ = _ := h1
   have hl1 := (HRR.out.extQ hR (HQ3.out _ HNQ.out.2.2.2 HNQ.out.2.2.1 HOW.out.2.2.1)).cell 0
   go_simp
   rfl
 refine wpZ_eff (fun c v w => 1 ≤ c ∧ (c ≤ 1 → StQ W.heap.size EpQ y [v] w)) (fun w' => SRd K B p g w' SN ∧ OS (fun k => k < C) 51 1 C EpQ w' (.slice AO acc.length cO) acc) rfl (runsX rfl) rfl (keptC_at fun _ _ _ h k => StQ.ext h k) (fun _ _ x y => ⟨x.1.ext y, x.2.ext y⟩) ?_ ?_
 · intro a w' hR hS h1 K hK
   have e1 : _ = _ := h1
   go_simp
   refine (HNU.out w' hS.1 (by have h1 := HCN.out; have h2 := HZ.out; have h3 := hR.size; omega)).mono ?_
   rintro e w3 ⟨v, rfl, hst3, hg3, hx3⟩
   exact hK _ _ (hx3.mono fun i hi => hi.elim .inl fun e => .inr (.inl e)) ⟨hg3, hS.2.extQ hx3 (fun i hi => .inl (HPC.out i hi)) (fun i hi e => by have h1 := (HO.out.lt hi).1; have e : i < C := e; omega)⟩ ⟨Nat.le_refl _, fun _ V hV => ⟨v, rfl, hst3 V (hV.mono fun i hi => Nat.lt_of_lt_of_le hi hR.size)⟩⟩
 refine wpZ_callA (fun c v w => 1 ≤ c ∧ (c ≤ 1 → LQ W.heap.size 1 EpQ y v w)) rfl rfl (runsX rfl) rfl (keptC_at fun _ _ _ h k => LQ.ext h k) ?_ ?_
 · intro a w' hR hS h1 K hK
   obtain ⟨y8, ey8, fy8⟩ : ∃ x, a.tmps.getD 5 undef = x ∧ (fun v w => 1 ≤ 0 + 1 ∧ (0 + 1 ≤ 1 → StQ W.heap.size EpQ y [v] w)) x w' := ⟨_, rfl, h1⟩
   have q1 : a.tmps[5]?.getD undef = y8 := by rw [← Array.getD_eq_getD_getElem?]; exact ey8
   obtain ⟨u9, hu9, hrp9⟩ := fy8.2 (Nat.le_refl _) w' (ExtQ.refl _ _)
   injection hu9 with hu9
   subst hu9
   obtain ⟨A9, c9, hv9⟩ := hrp9.form
   have hst9 := fy8.2 (Nat.le_refl _)
   generalize y8 = y8' at *
   subst hv9
   go_simp
   exact hK _ _ ((Ext.refl _).alloc _) ⟨Nat.le_refl _, fun _ => LQ.lit #[_] _ rfl (by intro u hu; simp at hu; subst hu; rfl) hst9⟩
 refine wpZ_eff (fun c v w => 2 ≤ c ∧ (c ≤ 2 → OS (fun k => k < C) 51 1 C EpQ w v (acc ++ [y]))) (fun w' => SRd K B p g w' SN) rfl (runsX rfl) rfl (keptC_at fun _ _ _ h k => OS.ext h k) (fun _ _ x y => x.ext y) ?_ ?_
 · intro a w' hR hS h1 h2 K hK
   have e1 : _ = _ := h1
   obtain ⟨y9, ey9, fy9⟩ : ∃ x, a.tmps.getD 6 undef = x ∧ (fun v w => 1 ≤ 0 + 1 ∧ (0 + 1 ≤ 1 → LQ W.heap.size 1 EpQ y v w)) x w' := ⟨_, rfl, h2⟩
   obtain ⟨r9, hr9, hk9, ho9, hs9⟩ := fy9.2 (Nat.le_refl _)
   refine wp_appS elemEp w' (.tmp 3) (.tmp 6) rfl C _ _ acc e1 hS.2 ey9 r9 y hr9 ho9 hk9 (fun V hV => hs9 V (HMK.out w' hR.size V hV)) (by have := HAC.out; omega) (by have := HAC.out; unfold maxLen; omega) (by have h1 := HZ.out; have h2 := hR.size; omega) ?_
   intro v' w3 ho3 hg3
   exact hK _ _ (ExtQ.grown hg3 (fun i hi => .inr (.inr hi))) (hS.1.extQ (ExtQ.grown hg3 (fun i hi => by have h1 := (HO.out.lt hi).1; have h2 := HCN.out; show B ≤ i; omega))) ⟨Nat.le_refl _, fun _ => ho3⟩
 repeat (first | (refine wpZ_move0 rfl rfl (fun _ => (runsX rfl)) Ext.refl rfl rfl (fun _ => rfl) ?_; apply Exists.intro; refine ⟨?_, ?_⟩; · (go_simp; rfl)) | (refine wpZ_val rfl rfl (fun _ => (runsX rfl)) Ext.refl rfl ?_; apply Exists.intro; refine ⟨?_, ?_⟩; · (intro c a w' hR; (try (intro h1; try have e1 : _ = _ := h1)); (try (intro h2; try have e2 : _ = _ := h2)); (try (intro h3; try have e3 : _ = _ := h3)); go_simp; rfl)))
 refine wpZ_done ?_
 intro w6 hx6 hS6
 iterate 3 (rintro _ rfl)
 iterate 1 (intro _ hz; clear hz)
 rintro v6 h9
 rintro v7 h10
 rintro _ rfl
 dsimp only [FinV]
 go_simp
 have ho6 := h10.2 (Nat.le_refl _)
 obtain ⟨A6, c6, hv6⟩ := ho6.form
 rw [List.length_append, List.length_singleton] at hv6
 subst hv6
 have HO6 := hid ho6
 have HG6 := hid (show SRd K B p g w6 SN from hS6)
 have HX6 := hid (show ExtQ (fun k => k = p ∨ k = g ∨ (Value.slice AO acc.length cO).ownBlock = some k) W w6 from hx6)
 have HQ6 := hid (HQ.out.extQ HX6.out (HQ3.out _ HNQ.out.2.1 HNQ.out.1 HOW.out.1))
 have HR6 := hid (HRR.out.extQ HX6.out (HQ3.out _ HNQ.out.2.2.2 HNQ.out.2.2.1 HOW.out.2.2.1))
 clear h9 h10 ho6 hS6 hx6
 have f1 : w6.frozen? ⟨o, 6, none⟩ = false := HQ6.out.b.frozen 6
 have d1 : w6.cell? ⟨o, 6, none⟩ = some (.slice AO acc.length cO) := HQ6.out.b.cell 6
 have hst : ExtQ (fun k => k = o) w6 (w6.setCell ⟨o, 6, none⟩ (.slice A6 (acc.length + 1) c6)) := ExtQ.setCell (Q := fun k => k = o) (ExtQ.refl _ _) (p := ⟨o, 6, none⟩) rfl _
 have HQ7 := hid (HQ6.out.set_6 (.slice A6 (acc.length + 1) c6))
 have HR7 := hid (HR6.out.extQ hst (fun e => HCN.out.2.2.2.1 e.symm))
 have HG7 := hid (HG6.out.extQ (hst.mono fun i hi => by have h1 := HCN.out; show B ≤ i; have hi : i = o := hi; omega))
 have HO7 := hid (HO6.out.extQ hst (fun i (hi : i = o) => .inl (by have h2 := HCN.out; show i < C; omega)) (fun i hi e => by have h1 := (HO6.out.lt hi).1; have e : i < C := e; omega))
 have HX7 := hid (show RN p g (fun i => i = o ∨ C ≤ i) W (w6.setCell ⟨o, 6, none⟩ (.slice A6 (acc.length + 1) c6)) from (HX6.out.mono fun i hi => by
  rcases hi with hi | hi | hi
  · exact .inl hi
  · exact .inr (.inl hi)
  · exact .inr (.inr (.inr (HO.out.lt hi).1))).trans (hst.mono fun i hi => .inr (.inr (.inl hi))))
 have HZ7 := hid (show C ≤ (w6.setCell ⟨o, 6, none⟩ (.slice A6 (acc.length + 1) c6)).heap.size from Nat.le_trans HZ.out (Nat.le_trans HX6.out.size hst.size))
 clear hst
 simp only [thenTail, List.drop_succ_cons, List.drop_zero]
 go_wp2
 go_end0
 exact ⟨rfl, HG7.out, ⟨HR7.out, HZ7.out, _, HQ7.out, HO7.out⟩, HX7.out⟩
set_option maxHeartbeats 8000000 in
theorem actsStep (K : Nat → Prop) (B p g C o qr : Nat) (k0 k1 k2 k3 : Int) (nv : Value) (out : Int) (iv : Value) (ha : B ≤ o) (hq : B ≤ qr) (haq : o ≠ qr) (haC : o < C) (hqC : qr < C) :
 StepR K B p g C (fun i => i = o ∨ C ≤ i) 55 #[.pointer (some ⟨o, 0, none⟩), .pointer (some ⟨qr, 0, none⟩)] actP (ActsJ p C o qr k0 k1 k2 k3 nv out iv) := by
 intro S acc W hg hj hN hl hacc
 obtain ⟨hr, hc, sl, hb, ho⟩ := hj
 obtain ⟨AO, cO, rfl⟩ := ho.form
 have HG := hid hg
 have HRR := hid hr
 have HQ := hid hb
 have HO := hid ho
 have HCN := hid (show B ≤ o ∧ B ≤ qr ∧ o < C ∧ o ≠ qr ∧ qr < C from ⟨ha, hq, haC, haq, hqC⟩)
 have HAC := hid hacc
 have HZ := hid hc
 have HPG := hid (show p < B ∧ g < B from ⟨hg.lp, hg.lg⟩)
 have HNU := hid (fun w (h : SRd K B p g w S) (hB : B ≤ w.heap.size) => sact_any K B p g S w h hB hl)
 generalize actP S = RW at *
 obtain ⟨SN, y⟩ := RW
 dsimp only at *
 have HOW := hid (show (Value.slice AO acc.length cO).ownBlock ≠ some o ∧ (Value.slice AO acc.length cO).ownBlock ≠ some p ∧ (Value.slice AO acc.length cO).ownBlock ≠ some qr ∧ (Value.slice AO acc.length cO).ownBlock ≠ some g from by
  have h1 := HCN.out
  have h2 := HPG.out
  exact ⟨fun e => by have := (HO.out.lt e).1; omega, fun e => by have := (HO.out.lt e).1; omega, fun e => by have := (HO.out.lt e).1; omega, fun e => by have := (HO.out.lt e).1; omega⟩)
 have HNQ := hid (show o ≠ g ∧ o ≠ p ∧ qr ≠ g ∧ qr ≠ p from by
  have h1 := HCN.out
  have h2 := HPG.out
  exact ⟨by omega, by omega, by omega, by omega⟩)
 have HQ3 := hid (show ∀ q, q ≠ p → q ≠ g → (Value.slice AO acc.length cO).ownBlock ≠ some q → ¬ (q = p ∨ q = g ∨ (Value.slice AO acc.length cO).ownBlock = some q) from fun q h1 h2 h3 h => by rcases h with h | h | h; exact h1 h; exact h2 h; exact h3 h)
 have HPC := hid (show ∀ i, (i = p ∨ i = g) → i < C from fun i hi => by have h1 := HPG.out; have h2 := HCN.out; rcases hi with hi | hi <;> omega)
 have HMK := hid (fun (W' : World) (hs : W.heap.size ≤ W'.heap.size) (V : World) (hV : ExtQ (MayK (fun k => k < C) (.slice AO acc.length cO) W') W' V) => show ExtQ (fun k => k < W.heap.size) W' V from hV.mono' fun i hi hq => by
  rcases hq with hq | hq | hq
  · exact Nat.lt_of_lt_of_le hq HZ.out
  · exact (HO.out.lt hq).2
  · omega)
 clear hg hr hb ho hc hN hl hacc ha hq haq haC hqC
 go_enter Tryz.func55, Tryz.ntmps55
 go_upto_region 0 with fail
 refine wp_region_tailZ 7 [5, 7] [6] Ext (ExtQ (fun k => k = p ∨ k = g ∨ (Value.slice AO acc.length cO).ownBlock = some k)) (fun w' => SRd K B p g w' S ∧ OS (fun k => k < C) 47 6 C ActQ w' (.slice AO acc.length cO) acc) (by kernel_rfl) (by kernel_rfl) (by kernel_rfl) (by kernel_rfl) (by kernel_rfl) (by kernel_rfl) (by kernel_rfl) (by rfl) (by rfl) (by kernel_rfl) (by kernel_rfl) (by kernel_rfl) (fun _ _ _ x y => x.trans y) (ExtQ.refl _) (fun _ _ x => ExtQ.of x) Ext.refl (Ext.refl _).drew (fun _ _ x y => ⟨x.1.ext y, x.2.ext y⟩) (⟨HG.out, HO.out⟩) ?_
 repeat (first | (refine wpZ_move0 rfl rfl (fun _ => (runsX rfl)) Ext.refl rfl rfl (fun _ => rfl) ?_; apply Exists.intro; refine ⟨?_, ?_⟩; · (go_simp; rfl)) | (refine wpZ_val rfl rfl (fun _ => (runsX rfl)) Ext.refl rfl ?_; apply Exists.intro; refine ⟨?_, ?_⟩; · (intro c a w' hR; (try (intro h1; try have e1 : _ = _ := h1)); (try (intro h2; try have e2 : _ = _ := h2)); (try (intro h3; try have e3 : _ = _ := h3)); go_simp; rfl)))
 refine wpZ_val rfl rfl (fun _ => (runsX rfl)) Ext.refl rfl ?_; apply Exists.intro; refine ⟨?_, ?_⟩
 · intro c a w' hR h1
   have e1 : _ = _ := h1
   have hl1 := (HQ.out.b.extQ hR (HQ3.out _ HNQ.out.2.1 HNQ.out.1 HOW.out.1)).cell 7
   go_simp
   rfl
 refine wpZ_val rfl rfl (fun _ => (runsX rfl)) Ext.refl rfl ?_; apply Exists.intro; refine ⟨?_, ?_⟩
 · intro c a w' hR h1
   have e1 : _ = _ := h1
   have hl1 := (HRR.out.extQ hR (HQ3.out _ HNQ.out.2.2.2 HNQ.out.2.2.1 HOW.out.2.2.1)).cell 0
   go_simp
   rfl
 refine wpZ_eff (fun c v w => 1 ≤ c ∧ (c ≤ 1 → ActSt W.heap.size y v w)) (fun w' => SRd K B p g w' SN ∧ OS (fun k => k < C) 47 6 C ActQ w' (.slice AO acc.length cO) acc) rfl (runsX rfl) rfl (keptC_at fun _ _ _ h k => ActSt.ext h k) (fun _ _ x y => ⟨x.1.ext y, x.2.ext y⟩) ?_ ?_
 · intro a w' hR hS h1 K hK
   have e1 : _ = _ := h1
   go_simp
   refine (HNU.out w' hS.1 (by have h1 := HCN.out; have h2 := HZ.out; have h3 := hR.size; omega)).mono ?_
   rintro e w3 ⟨v, rfl, hst3, hg3, hx3⟩
   exact hK _ _ (hx3.mono fun i hi => hi.elim .inl fun e => .inr (.inl e)) ⟨hg3, hS.2.extQ hx3 (fun i hi => .inl (HPC.out i hi)) (fun i hi e => by have h1 := (HO.out.lt hi).1; have e : i < C := e; omega)⟩ ⟨Nat.le_refl _, fun _ => ⟨v, rfl, fun V hV => hst3 V (hV.mono fun i hi => Nat.lt_of_lt_of_le hi hR.size)⟩⟩
 refine wpZ_callA (fun c v w => 1 ≤ c ∧ (c ≤ 1 → LQ W.heap.size 6 ActQ y v w)) rfl rfl (runsX rfl) rfl (keptC_at fun _ _ _ h k => LQ.ext h k) ?_ ?_
 · intro a w' hR hS h1 K hK
   obtain ⟨y8, ey8, fy8⟩ : ∃ x, a.tmps.getD 5 undef = x ∧ (fun v w => 1 ≤ 0 + 1 ∧ (0 + 1 ≤ 1 → ActSt W.heap.size y v w)) x w' := ⟨_, rfl, h1⟩
   obtain ⟨u9, hu9, hst9⟩ := fy8.2 (Nat.le_refl _)
   obtain ⟨A9, c9, hv9⟩ := (hst9 w' (ExtQ.refl _ _)).form
   subst hv9
   have q1 : a.tmps[5]?.getD undef = actAg y.1.1 y.1.2.1 y.1.2.2.1 y.1.2.2.2.1 y.1.2.2.2.2 (.slice A9 y.2.length c9) := by rw [← Array.getD_eq_getD_getElem?, ← hu9]; exact ey8
   go_simp
   exact hK _ _ ((Ext.refl _).alloc _) ⟨Nat.le_refl _, fun _ => LQ.lit #[.int .i64 y.1.1, .int .i64 y.1.2.1, .int .i64 y.1.2.2.1, .int .i64 y.1.2.2.2.1, .int .i64 y.1.2.2.2.2, .slice A9 y.2.length c9] _ rfl (act_one _ _ _ _ _ _ _ _) (fun V hV => ⟨_, rfl, hst9 V hV⟩)⟩
 refine wpZ_eff (fun c v w => 2 ≤ c ∧ (c ≤ 2 → OS (fun k => k < C) 47 6 C ActQ w v (acc ++ [y]))) (fun w' => SRd K B p g w' SN) rfl (runsX rfl) rfl (keptC_at fun _ _ _ h k => OS.ext h k) (fun _ _ x y => x.ext y) ?_ ?_
 · intro a w' hR hS h1 h2 K hK
   have e1 : _ = _ := h1
   obtain ⟨y9, ey9, fy9⟩ : ∃ x, a.tmps.getD 6 undef = x ∧ (fun v w => 1 ≤ 0 + 1 ∧ (0 + 1 ≤ 1 → LQ W.heap.size 6 ActQ y v w)) x w' := ⟨_, rfl, h2⟩
   obtain ⟨r9, hr9, hk9, ho9, hs9⟩ := fy9.2 (Nat.le_refl _)
   refine wp_appS elemAct w' (.tmp 3) (.tmp 6) rfl C _ _ acc e1 hS.2 ey9 r9 y hr9 ho9 hk9 (fun V hV => hs9 V (HMK.out w' hR.size V hV)) (by have := HAC.out; omega) (by have := HAC.out; unfold maxLen; omega) (by have h1 := HZ.out; have h2 := hR.size; omega) ?_
   intro v' w3 ho3 hg3
   exact hK _ _ (ExtQ.grown hg3 (fun i hi => .inr (.inr hi))) (hS.1.extQ (ExtQ.grown hg3 (fun i hi => by have h1 := (HO.out.lt hi).1; have h2 := HCN.out; show B ≤ i; omega))) ⟨Nat.le_refl _, fun _ => ho3⟩
 repeat (first | (refine wpZ_move0 rfl rfl (fun _ => (runsX rfl)) Ext.refl rfl rfl (fun _ => rfl) ?_; apply Exists.intro; refine ⟨?_, ?_⟩; · (go_simp; rfl)) | (refine wpZ_val rfl rfl (fun _ => (runsX rfl)) Ext.refl rfl ?_; apply Exists.intro; refine ⟨?_, ?_⟩; · (intro c a w' hR; (try (intro h1; try have e1 : _ = _ := h1)); (try (intro h2; try have e2 : _ = _ := h2)); (try (intro h3; try have e3 : _ = _ := h3)); go_simp; rfl)))
 refine wpZ_done ?_
 intro w6 hx6 hS6
 iterate 3 (rintro _ rfl)
 iterate 1 (intro _ hz; clear hz)
 rintro v6 h9
 rintro v7 h10
 rintro _ rfl
 dsimp only [FinV]
 go_simp
 have ho6 := h10.2 (Nat.le_refl _)
 obtain ⟨A6, c6, hv6⟩ := ho6.form
 rw [List.length_append, List.length_singleton] at hv6
 subst hv6
 have HO6 := hid ho6
 have HG6 := hid (show SRd K B p g w6 SN from hS6)
 have HX6 := hid (show ExtQ (fun k => k = p ∨ k = g ∨ (Value.slice AO acc.length cO).ownBlock = some k) W w6 from hx6)
 have HQ6 := hid (HQ.out.extQ HX6.out (HQ3.out _ HNQ.out.2.1 HNQ.out.1 HOW.out.1))
 have HR6 := hid (HRR.out.extQ HX6.out (HQ3.out _ HNQ.out.2.2.2 HNQ.out.2.2.1 HOW.out.2.2.1))
 clear h9 h10 ho6 hS6 hx6
 have f1 : w6.frozen? ⟨o, 7, none⟩ = false := HQ6.out.b.frozen 7
 have d1 : w6.cell? ⟨o, 7, none⟩ = some (.slice AO acc.length cO) := HQ6.out.b.cell 7
 have hst : ExtQ (fun k => k = o) w6 (w6.setCell ⟨o, 7, none⟩ (.slice A6 (acc.length + 1) c6)) := ExtQ.setCell (Q := fun k => k = o) (ExtQ.refl _ _) (p := ⟨o, 7, none⟩) rfl _
 have HQ7 := hid (HQ6.out.set_7 (.slice A6 (acc.length + 1) c6))
 have HR7 := hid (HR6.out.extQ hst (fun e => HCN.out.2.2.2.1 e.symm))
 have HG7 := hid (HG6.out.extQ (hst.mono fun i hi => by have h1 := HCN.out; show B ≤ i; have hi : i = o := hi; omega))
 have HO7 := hid (HO6.out.extQ hst (fun i (hi : i = o) => .inl (by have h2 := HCN.out; show i < C; omega)) (fun i hi e => by have h1 := (HO6.out.lt hi).1; have e : i < C := e; omega))
 have HX7 := hid (show RN p g (fun i => i = o ∨ C ≤ i) W (w6.setCell ⟨o, 7, none⟩ (.slice A6 (acc.length + 1) c6)) from (HX6.out.mono fun i hi => by
  rcases hi with hi | hi | hi
  · exact .inl hi
  · exact .inr (.inl hi)
  · exact .inr (.inr (.inr (HO.out.lt hi).1))).trans (hst.mono fun i hi => .inr (.inr (.inl hi))))
 have HZ7 := hid (show C ≤ (w6.setCell ⟨o, 7, none⟩ (.slice A6 (acc.length + 1) c6)).heap.size from Nat.le_trans HZ.out (Nat.le_trans HX6.out.size hst.size))
 clear hst
 simp only [thenTail, List.drop_succ_cons, List.drop_zero]
 go_wp2
 go_end0
 exact ⟨rfl, HG7.out, ⟨HR7.out, HZ7.out, _, HQ7.out, HO7.out⟩, HX7.out⟩
end Go.Proofs.YtpmpjjhchkoboaaGreatDoor
