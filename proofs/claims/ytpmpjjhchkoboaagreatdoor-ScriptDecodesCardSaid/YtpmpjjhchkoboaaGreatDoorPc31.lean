/-
  ScrRdE, packed: what the claim needs of them.
-/
import Derived.Test.YtpmpjjhchkoboaaGreatDoorPc30
open Go.Lib (hid)
set_option linter.unusedSimpArgs false
set_option linter.unusedVariables false
set_option maxRecDepth 100000
namespace Go.Proofs.YtpmpjjhchkoboaaGreatDoor
open Go.RowKit Go.Ox Go.Ox.Gr Go.Ox.Sc
def StQ {β : Type} (N : Nat) (Q : World → List Value → β → Prop) (b : β) (r : List Value) (w : World) : Prop := ∀ W, ExtQ (fun k => k < N) w W → Q W r b
theorem StQ.ext {β : Type} {N : Nat} {Q : World → List Value → β → Prop} {b : β} {r : List Value} {w w' : World} (h : StQ N Q b r w) (he : Ext w w') : StQ N Q b r w' := fun W hW => h W ((ExtQ.of he).trans hW)
def LQ {β : Type} (N k : Nat) (Q : World → List Value → β → Prop) (b : β) (v : Value) (w : World) : Prop := ∃ r, Rd w k v 1 r ∧ r.length = k ∧ (∀ u ∈ r, u.oneCell' = true) ∧ StQ N Q b r w
theorem LQ.ext {β : Type} {N k : Nat} {Q : World → List Value → β → Prop} {b : β} {v : Value} {w w' : World} (h : LQ N k Q b v w) (he : Ext w w') : LQ N k Q b v w' := by
 obtain ⟨r, h1, h2, h3, h4⟩ := h
 exact ⟨r, Rd.ext h1 he, h2, h3, h4.ext he⟩
theorem LQ.lit {β : Type} {N k : Nat} {Q : World → List Value → β → Prop} {b : β} {w : World} (cs : Array Value) (E : TypeId) (h1 : cs.size = k) (h2 : ∀ u ∈ cs.toList, u.oneCell' = true) (h : StQ N Q b cs.toList w) : LQ N k Q b (.slice (some ⟨w.heap.size, 0, none⟩) 1 1) (w.alloc (.cells cs E)) :=
 ⟨cs.toList, Rd.lit w cs E 1 (by omega) (by unfold maxLen; omega), by simpa using h1, h2, h.ext ((Ext.refl w).alloc _)⟩
def BagQ (W : World) (r : List Value) (b : Bag) : Prop := ∃ u, r = [u] ∧ RP W u b
def EpQ (W : World) (r : List Value) (l : List Bag) : Prop := ∃ u, r = [u] ∧ EpR W u l
theorem RV.of_rs1 {β : Type} {R : World → Value → β → Prop} {w : World} {v : Value} {ls : List β} (h : RS 1 (fun W r x => ∃ u, r = [u] ∧ R W u x) w v ls) : RV R w v ls := by
 obtain ⟨rows, h1, h2, h3⟩ := h.ex
 refine ⟨rows.flatten, by rw [← h2]; exact h1, fun k hk => ?_⟩
 have hall : ∀ r ∈ rows, r.length = 1 := by
  intro r hr
  obtain ⟨j, hj, rfl⟩ := List.getElem_of_mem hr
  exact (h3 j _ (ls[j]'(by omega)) (List.getElem?_eq_getElem hj) (List.getElem?_eq_getElem (by omega))).1
 obtain ⟨r, hr⟩ : ∃ r, rows[k]? = some r := ⟨rows[k]'(by omega), List.getElem?_eq_getElem (by omega)⟩
 obtain ⟨q1, u, rfl, q3⟩ := h3 k r ls[k] hr (List.getElem?_eq_getElem hk)
 refine ⟨u, ?_, q3⟩
 have := flat_atK (i := k) (j := 0) rows hall (by omega) hr
 simpa using this
theorem EpR.of_rs {w : World} {v : Value} {ls : List Bag} (h : RS 1 BagQ w v ls) : EpR w v ls := RV.of_rs1 h
theorem InsR.of_rs {w : World} {v : Value} {ls : List (List Bag)} (h : RS 1 EpQ w v ls) : InsR w v ls := RV.of_rs1 h
theorem elemBag : Elem Tryz.prog 51 52 (.slice none 0 0) 1 24 := Elem.mk' Tryz.underlying51 (by kernel_rfl) rfl (by omega)
theorem elemEp : Elem Tryz.prog 27 51 (.slice none 0 0) 1 24 := Elem.mk' Tryz.underlying27 (by kernel_rfl) rfl (by omega)
theorem elemAct : Elem Tryz.prog 28 47 (.agg #[.int .i64 0, .int .i64 0, .int .i64 0, .int .i64 0, .int .i64 0, .slice none 0 0]) 6 64 := Elem.mk' Tryz.underlying28 (by kernel_rfl) rfl (by omega)
structure EpJ (p C o qr : Nat) (acc : List Bag) (W : World) : Prop where
 r : Blk W qr 81 #[.pointer (some ⟨p, 0, none⟩)]
 c : C ≤ W.heap.size
 s : ∃ sl, Blk W o 51 #[sl] ∧ OS (fun k => k < C) 52 1 C BagQ W sl acc
theorem EpJ.extQ {Q : Nat → Prop} {p C o qr : Nat} {acc : List Bag} {W W' : World} (h : EpJ p C o qr acc W) (he : ExtQ Q W W') (h1 : ¬ Q o) (h2 : ¬ Q qr) (h3 : ∀ i, Q i → i < C) : EpJ p C o qr acc W' := by
 obtain ⟨hr, hc, sl, hb, ho⟩ := h
 exact ⟨hr.extQ he h2, Nat.le_trans hc he.size, sl, hb.extQ he h1, ho.extQ he (fun j hj => .inl (h3 j hj)) (fun g hg q => by have := (ho.lt hg).1; have q : g < C := q; omega)⟩
attribute [local irreducible] RE OE OB RB NodesR EpR InsR ActsR RP OP
set_option maxHeartbeats 8000000 in
theorem epStep (K : Nat → Prop) (B p g C o qr : Nat) (ha : B ≤ o) (hq : B ≤ qr) (haq : o ≠ qr) (haC : o < C) (hqC : qr < C) :
 StepR K B p g C (fun i => i = o ∨ C ≤ i) 103 #[.pointer (some ⟨o, 0, none⟩), .pointer (some ⟨qr, 0, none⟩)] bagP (EpJ p C o qr) := by
 intro S acc W hg hj hN hl hacc
 obtain ⟨hr, hc, sl, hb, ho⟩ := hj
 obtain ⟨AO, cO, rfl⟩ := ho.form
 have HG := hid hg
 have HRR := hid hr
 have HQ := hid hb
 have HO := hid ho
 have HCN := hid (show B ≤ o ∧ B ≤ qr ∧ o < C ∧ o ≠ qr ∧ qr < C from ⟨ha, hq, haC, haq, hqC⟩)
 have HAC := hid hacc
 have HZ := hid hc
 have HPG := hid (show p < B ∧ g < B from ⟨hg.lp, hg.lg⟩)
 have HNU := hid (fun w (h : SRd K B p g w S) (hB : B ≤ w.heap.size) => sbag_any K B p g S w h hB hl)
 generalize bagP S = RW at *
 obtain ⟨SN, y⟩ := RW
 dsimp only at *
 have HOW := hid (show (Value.slice AO acc.length cO).ownBlock ≠ some o ∧ (Value.slice AO acc.length cO).ownBlock ≠ some p ∧ (Value.slice AO acc.length cO).ownBlock ≠ some qr ∧ (Value.slice AO acc.length cO).ownBlock ≠ some g from by
  have h1 := HCN.out
  have h2 := HPG.out
  exact ⟨fun e => by have := (HO.out.lt e).1; omega, fun e => by have := (HO.out.lt e).1; omega, fun e => by have := (HO.out.lt e).1; omega, fun e => by have := (HO.out.lt e).1; omega⟩)
 have HNQ := hid (show o ≠ g ∧ o ≠ p ∧ qr ≠ g ∧ qr ≠ p from by
  have h1 := HCN.out
  have h2 := HPG.out
  exact ⟨by omega, by omega, by omega, by omega⟩)
 have HQ3 := hid (show ∀ q, q ≠ p → q ≠ g → (Value.slice AO acc.length cO).ownBlock ≠ some q → ¬ (q = p ∨ q = g ∨ (Value.slice AO acc.length cO).ownBlock = some q) from fun q h1 h2 h3 h => by rcases h with h | h | h; exact h1 h; exact h2 h; exact h3 h)
 have HPC := hid (show ∀ i, (i = p ∨ i = g) → i < C from fun i hi => by have h1 := HPG.out; have h2 := HCN.out; rcases hi with hi | hi <;> omega)
 have HMK := hid (fun (W' : World) (hs : W.heap.size ≤ W'.heap.size) (V : World) (hV : ExtQ (MayK (fun k => k < C) (.slice AO acc.length cO) W') W' V) => show ExtQ (fun k => k < W.heap.size) W' V from hV.mono' fun i hi hq => by
  rcases hq with hq | hq | hq
  · exact Nat.lt_of_lt_of_le hq HZ.out
  · exact (HO.out.lt hq).2
  · omega)
 clear hg hr hb ho hc hN hl hacc ha hq haq haC hqC
 go_enter Tryz.func103, Tryz.ntmps103
 go_upto_region 0 with fail
 refine wp_region_tailZ 5 [4, 6] [5] Ext (ExtQ (fun k => k = p ∨ k = g ∨ (Value.slice AO acc.length cO).ownBlock = some k)) (fun w' => SRd K B p g w' S ∧ OS (fun k => k < C) 52 1 C BagQ w' (.slice AO acc.length cO) acc) (by kernel_rfl) (by kernel_rfl) (by kernel_rfl) (by kernel_rfl) (by kernel_rfl) (by kernel_rfl) (by kernel_rfl) (by rfl) (by rfl) (by kernel_rfl) (by kernel_rfl) (by kernel_rfl) (fun _ _ _ x y => x.trans y) (ExtQ.refl _) (fun _ _ x => ExtQ.of x) Ext.refl (Ext.refl _).drew (fun _ _ x y => ⟨x.1.ext y, x.2.ext y⟩) (⟨HG.out, HO.out⟩) ?_
 repeat (first | (refine wpZ_move0 rfl rfl (fun _ => (runsX rfl)) Ext.refl rfl rfl (fun _ => rfl) ?_; apply Exists.intro; refine ⟨?_, ?_⟩; · (go_simp; rfl)) | (refine wpZ_val rfl rfl (fun _ => (runsX rfl)) Ext.refl rfl ?_; apply Exists.intro; refine ⟨?_, ?_⟩; · (intro c a w' hR; (try (intro h1; try have e1 : _ = _ := h1)); (try (intro h2; try have e2 : _ = _ := h2)); (try (intro h3; try have e3 : _ = _ := h3)); go_simp; rfl)))
 refine wpZ_val rfl rfl (fun _ => (runsX rfl)) Ext.refl rfl ?_; apply Exists.intro; refine ⟨?_, ?_⟩
 · intro c a w' hR h1
   have e1 : _ = _ := h1
   have hl1 := (HQ.out.extQ hR (HQ3.out _ HNQ.out.2.1 HNQ.out.1 HOW.out.1)).cell 0
   go_simp
   rfl
 refine wpZ_val rfl rfl (fun _ => (runsX rfl)) Ext.refl rfl ?_; apply Exists.intro; refine ⟨?_, ?_⟩
 · intro c a w' hR h1
   have e1 : _ = _ := h1
   have hl1 := (HRR.out.extQ hR (HQ3.out _ HNQ.out.2.2.2 HNQ.out.2.2.1 HOW.out.2.2.1)).cell 0
   go_simp
   rfl
 refine wpZ_eff (fun c v w => 1 ≤ c ∧ (c ≤ 1 → StQ W.heap.size BagQ y [v] w)) (fun w' => SRd K B p g w' SN ∧ OS (fun k => k < C) 52 1 C BagQ w' (.slice AO acc.length cO) acc) rfl (runsX rfl) rfl (keptC_at fun _ _ _ h k => StQ.ext h k) (fun _ _ x y => ⟨x.1.ext y, x.2.ext y⟩) ?_ ?_
 · intro a w' hR hS h1 K hK
   have e1 : _ = _ := h1
   go_simp
   refine (HNU.out w' hS.1 (by have h1 := HCN.out; have h2 := HZ.out; have h3 := hR.size; omega)).mono ?_
   rintro e w3 ⟨v, rfl, hst3, hg3, hx3⟩
   exact hK _ _ (hx3.mono fun i hi => hi.elim .inl fun e => .inr (.inl e)) ⟨hg3, hS.2.extQ hx3 (fun i hi => .inl (HPC.out i hi)) (fun i hi e => by have h1 := (HO.out.lt hi).1; have e : i < C := e; omega)⟩ ⟨Nat.le_refl _, fun _ V hV => ⟨v, rfl, hst3 V (hV.mono fun i hi => Nat.lt_of_lt_of_le hi hR.size)⟩⟩
 refine wpZ_callA (fun c v w => 1 ≤ c ∧ (c ≤ 1 → LQ W.heap.size 1 BagQ y v w)) rfl rfl (runsX rfl) rfl (keptC_at fun _ _ _ h k => LQ.ext h k) ?_ ?_
 · intro a w' hR hS h1 K hK
   obtain ⟨y8, ey8, fy8⟩ : ∃ x, a.tmps.getD 4 undef = x ∧ (fun v w => 1 ≤ 0 + 1 ∧ (0 + 1 ≤ 1 → StQ W.heap.size BagQ y [v] w)) x w' := ⟨_, rfl, h1⟩
   have q1 : a.tmps[4]?.getD undef = y8 := by rw [← Array.getD_eq_getD_getElem?]; exact ey8
   obtain ⟨u9, hu9, hrp9⟩ := fy8.2 (Nat.le_refl _) w' (ExtQ.refl _ _)
   injection hu9 with hu9
   subst hu9
   obtain ⟨A9, c9, hv9⟩ := hrp9.form
   have hst9 := fy8.2 (Nat.le_refl _)
   generalize y8 = y8' at *
   subst hv9
   go_simp
   exact hK _ _ ((Ext.refl _).alloc _) ⟨Nat.le_refl _, fun _ => LQ.lit #[_] _ rfl (by intro u hu; simp at hu; subst hu; rfl) hst9⟩
 refine wpZ_eff (fun c v w => 2 ≤ c ∧ (c ≤ 2 → OS (fun k => k < C) 52 1 C BagQ w v (acc ++ [y]))) (fun w' => SRd K B p g w' SN) rfl (runsX rfl) rfl (keptC_at fun _ _ _ h k => OS.ext h k) (fun _ _ x y => x.ext y) ?_ ?_
 · intro a w' hR hS h1 h2 K hK
   have e1 : _ = _ := h1
   obtain ⟨y9, ey9, fy9⟩ : ∃ x, a.tmps.getD 5 undef = x ∧ (fun v w => 1 ≤ 0 + 1 ∧ (0 + 1 ≤ 1 → LQ W.heap.size 1 BagQ y v w)) x w' := ⟨_, rfl, h2⟩
   obtain ⟨r9, hr9, hk9, ho9, hs9⟩ := fy9.2 (Nat.le_refl _)
   refine wp_appS elemBag w' (.tmp 2) (.tmp 5) rfl C _ _ acc e1 hS.2 ey9 r9 y hr9 ho9 hk9 (fun V hV => hs9 V (HMK.out w' hR.size V hV)) (by have := HAC.out; omega) (by have := HAC.out; unfold maxLen; omega) (by have h1 := HZ.out; have h2 := hR.size; omega) ?_
   intro v' w3 ho3 hg3
   exact hK _ _ (ExtQ.grown hg3 (fun i hi => .inr (.inr hi))) (hS.1.extQ (ExtQ.grown hg3 (fun i hi => by have h1 := (HO.out.lt hi).1; have h2 := HCN.out; show B ≤ i; omega))) ⟨Nat.le_refl _, fun _ => ho3⟩
 repeat (first | (refine wpZ_move0 rfl rfl (fun _ => (runsX rfl)) Ext.refl rfl rfl (fun _ => rfl) ?_; apply Exists.intro; refine ⟨?_, ?_⟩; · (go_simp; rfl)) | (refine wpZ_val rfl rfl (fun _ => (runsX rfl)) Ext.refl rfl ?_; apply Exists.intro; refine ⟨?_, ?_⟩; · (intro c a w' hR; (try (intro h1; try have e1 : _ = _ := h1)); (try (intro h2; try have e2 : _ = _ := h2)); (try (intro h3; try have e3 : _ = _ := h3)); go_simp; rfl)))
 refine wpZ_done ?_
 intro w6 hx6 hS6
 iterate 2 (rintro _ rfl)
 iterate 1 (intro _ hz; clear hz)
 rintro v5 h9
 rintro v6 h10
 dsimp only [FinV]
 go_simp
 have ho6 := h10.2 (Nat.le_refl _)
 obtain ⟨A6, c6, hv6⟩ := ho6.form
 rw [List.length_append, List.length_singleton] at hv6
 subst hv6
 have HO6 := hid ho6
 have HG6 := hid (show SRd K B p g w6 SN from hS6)
 have HX6 := hid (show ExtQ (fun k => k = p ∨ k = g ∨ (Value.slice AO acc.length cO).ownBlock = some k) W w6 from hx6)
 have HQ6 := hid (HQ.out.extQ HX6.out (HQ3.out _ HNQ.out.2.1 HNQ.out.1 HOW.out.1))
 have HR6 := hid (HRR.out.extQ HX6.out (HQ3.out _ HNQ.out.2.2.2 HNQ.out.2.2.1 HOW.out.2.2.1))
 clear h9 h10 ho6 hS6 hx6
 have f1 : w6.frozen? ⟨o, 0, none⟩ = false := HQ6.out.frozen 0
 have d1 : w6.cell? ⟨o, 0, none⟩ = some (.slice AO acc.length cO) := HQ6.out.cell 0
 have hst : ExtQ (fun k => k = o) w6 (w6.setCell ⟨o, 0, none⟩ (.slice A6 (acc.length + 1) c6)) := ExtQ.setCell (Q := fun k => k = o) (ExtQ.refl _ _) (p := ⟨o, 0, none⟩) rfl _
 have HQ7 := hid (show Blk (w6.setCell ⟨o, 0, none⟩ (.slice A6 (acc.length + 1) c6)) o 51 #[.slice A6 (acc.length + 1) c6] from by simpa using HQ6.out.set_ 0 (.slice A6 (acc.length + 1) c6))
 have HR7 := hid (HR6.out.extQ hst (fun e => HCN.out.2.2.2.1 e.symm))
 have HG7 := hid (HG6.out.extQ (hst.mono fun i hi => by have h1 := HCN.out; show B ≤ i; have hi : i = o := hi; omega))
 have HO7 := hid (HO6.out.extQ hst (fun i (hi : i = o) => .inl (by have h2 := HCN.out; show i < C; omega)) (fun i hi e => by have h1 := (HO6.out.lt hi).1; have e : i < C := e; omega))
 have HX7 := hid (show RN p g (fun i => i = o ∨ C ≤ i) W (w6.setCell ⟨o, 0, none⟩ (.slice A6 (acc.length + 1) c6)) from (HX6.out.mono fun i hi => by
  rcases hi with hi | hi | hi
  · exact .inl hi
  · exact .inr (.inl hi)
  · exact .inr (.inr (.inr (HO.out.lt hi).1))).trans (hst.mono fun i hi => .inr (.inr (.inl hi))))
 have HZ7 := hid (show C ≤ (w6.setCell ⟨o, 0, none⟩ (.slice A6 (acc.length + 1) c6)).heap.size from Nat.le_trans HZ.out (Nat.le_trans HX6.out.size hst.size))
 clear hst
 simp only [thenTail, List.drop_succ_cons, List.drop_zero]
 go_wp2
 go_end0
 exact ⟨rfl, HG7.out, ⟨HR7.out, HZ7.out, _, HQ7.out, HO7.out⟩, HX7.out⟩
theorem itrA_len {α : Type} {f : PS → PS × α} (hf : ∀ S, (f S).1.s.l.length ≤ S.s.l.length) : ∀ (n : Nat) (S : PS), (itrA f n S).1.s.l.length ≤ S.s.l.length
 | 0, S => Nat.le_refl _
 | n + 1, S => by
  by_cases h : S.gb = true ∨ S.s.bad = true
  · rw [itrA_stop h]; exact Nat.le_refl _
  · rw [itrA_go h]; exact Nat.le_trans (itrA_len hf n _) (hf S)
theorem rowP_len {α : Type} {f : PS → PS × α} (hf : ∀ S, (f S).1.s.l.length ≤ S.s.l.length) (most : Int) (S : PS) : (rowP most f S).1.s.l.length ≤ S.s.l.length := by
 have h1 := Num.numP_len S.s
 unfold rowP
 split
 · exact h1
 · exact Nat.le_trans (itrA_len hf _ _) h1
theorem bagP_len (S : PS) : (bagP S).1.s.l.length ≤ S.s.l.length := by
 have h : (bagP S).1.s = (Num.bytesP ((Num.numP S.s).2 : Int) (Num.numP S.s).1).1 := rfl
 rw [h]
 exact Nat.le_trans (Num.bytesP_len _ _) (Num.numP_len S.s)
theorem epP_len (S : PS) : (epP S).1.s.l.length ≤ S.s.l.length := rowP_len bagP_len 4 S
theorem seqP_len : ∀ (n : Nat) (S : PS), (seqP n S).1.s.l.length ≤ S.s.l.length
 | 0, S => Nat.le_refl _
 | n + 1, S => by
  have h : (seqP (n + 1) S).1 = (seqP n (numW S).1).1 := rfl
  rw [h]
  exact Nat.le_trans (seqP_len n (numW S).1) (actP_len S)
theorem actP_len' (S : PS) : (actP S).1.s.l.length ≤ S.s.l.length := by
 have h2 := seqP_len 5 S
 unfold actP
 dsimp only
 generalize (seqP 5 S).1 = S1 at *
 have h3 := rowP_len (f := numW) actP_len 256 S1
 generalize rowP 256 numW S1 = R1 at *
 omega
set_option maxHeartbeats 8000000 in
theorem sepoch_any (K : Nat → Prop) (B p g : Nat) (S : PS) (w : World) (h : SRd K B p g w S) (hB : B ≤ w.heap.size) (hl : S.s.l.length ≤ 1000000) :
 Calls Tryz.prog 54 #[.pointer (some ⟨p, 0, none⟩)] w fun e w' => ∃ v, e = .returned v ∧ (∀ W, ExtQ (fun k => k < w.heap.size) w' W → EpR W v (epP S).2) ∧ SRd K B p g w' (epP S).1 ∧ RX p g w w' := by
 have hsz : (w.alloc (.cells #[.pointer (some ⟨p, 0, none⟩)] 81)).heap.size = w.heap.size + 1 := by simp
 have hx0 := ((Ext.refl w).alloc (.cells #[.pointer (some ⟨p, 0, none⟩)] 81)).alloc (.cells #[.slice none 0 0] 51)
 have HRB := hid ((Blk.new w 81 #[.pointer (some ⟨p, 0, none⟩)]).ext ((Ext.refl _).alloc (.cells #[.slice none 0 0] 51)))
 have HRA := hid (Blk.new (w.alloc (.cells #[.pointer (some ⟨p, 0, none⟩)] 81)) 51 #[.slice none 0 0])
 rw [hsz] at HRA
 have HG0 := hid (h.ext hx0)
 have HX0 := hid hx0
 have HPG := hid (show p < w.heap.size ∧ g < w.heap.size ∧ B ≤ w.heap.size from by have := h.lp; have := h.lg; exact ⟨by omega, by omega, hB⟩)
 have HP := hid (show epP S = rowP 4 bagP S from rfl)
 generalize epP S = RR at *
 obtain ⟨SR, es⟩ := RR
 dsimp only
 have HL := hid hl
 have eg2 : ∀ args w, (callFunc 103 args).run Tryz.prog w = .ok (.enter 103 args) w := enters_of Tryz.func103 (by kernel_rfl) rfl
 have HEG := hid eg2
 have HS0 := hid (show ((w.alloc (.cells #[.pointer (some ⟨p, 0, none⟩)] 81)).alloc (.cells #[.slice none 0 0] 51)).heap.size = w.heap.size + 2 from by simp)
 clear h hB hl hsz hx0 eg2
 go_enter Tryz.func54, Tryz.ntmps54
 go_upto_region 2 with fail
 obtain ⟨q, hq⟩ : ∃ q, q = w.heap.size := ⟨_, rfl⟩
 rw [← hq] at HRB HRA HS0 ⊢
 have HQ := hid hq
 clear hq
 generalize (w.alloc (.cells #[.pointer (some ⟨p, 0, none⟩)] 81)).alloc (.cells #[.slice none 0 0] 51) = w0 at *
 have HNE := hid (show q ≠ g ∧ q ≠ p ∧ q + 1 ≠ g ∧ q + 1 ≠ p from by have h1 := HPG.out; have h2 := HQ.out; exact ⟨by omega, by omega, by omega, by omega⟩)
 have HC := hid (row_any K B p g w0.heap.size (fun i => i = q + 1 ∨ w0.heap.size ≤ i) bagP 4 103 #[.pointer (some ⟨q + 1, 0, none⟩), .pointer (some ⟨q, 0, none⟩)] HEG.out (EpJ p w0.heap.size (q + 1) q)
  (epStep K B p g w0.heap.size (q + 1) q (by have h1 := HPG.out; have h2 := HQ.out; omega) (by have h1 := HPG.out; have h2 := HQ.out; omega) (by omega) (by have := HS0.out; omega) (by have := HS0.out; omega))
  (fun acc W W' hj hx => hj.extQ hx (fun e => e.elim HNE.out.2.2.2 HNE.out.2.2.1) (fun e => e.elim HNE.out.2.1 HNE.out.1) (fun i hi => by have h1 := HPG.out; have h3 := HQ.out; have h4 := HS0.out; rcases hi with hi | hi <;> omega))
  bagP_len S w0 HG0.out (Nat.le_refl _) HL.out ⟨HRB.out, Nat.le_refl _, _, HRA.out, OS.nil _ _ _ _ _ _⟩ (by omega))
 rw [← HP.out] at HC
 dsimp only at HC
 have c0 : w0.cell? ⟨q, 0, none⟩ = some (.pointer (some ⟨p, 0, none⟩)) := HRB.out.cell 0
 go_wp2_with fail
 refine HC.out.mono ?_
 rintro e w3 ⟨rfl, hg3, ⟨hr3, hc3, sl, hb3, ho3⟩, hx3⟩
 obtain ⟨AK, cK, rfl⟩ := ho3.form
 have HG3 := hid hg3
 have HX4 := hid (show RX p g w w3 from by
  have x1 : ExtQ (fun k => k = p ∨ k = g ∨ w.heap.size ≤ k) w w0 := ExtQ.of HX0.out
  have x3 := x1.trans (hx3.mono fun i hi => by
   rcases hi with hi | hi | hi
   · exact .inl hi
   · exact .inr (.inl hi)
   · exact .inr (.inr (by have h2 := HQ.out; have h3 := HS0.out; rcases hi with hi | hi <;> omega)))
  exact x3.mono' fun i hi hq => by
   rcases hq with hq | hq | hq
   · exact .inl hq
   · exact .inr hq
   · omega)
 have HST := hid (show ∀ W, ExtQ (fun k => k < w.heap.size) w3 W → EpR W (.slice AK es.length cK) es from fun W hW =>
  EpR.of_rs (ho3.extQ hW (fun i (hi : i < w.heap.size) => .inl (by have h2 := HQ.out; have h3 := HS0.out; show i < w0.heap.size; omega)) (fun i hi e => by have h1 := (ho3.lt hi).1; have e : i < w0.heap.size := e; omega)).rs)
 have z0 : w3.cell? ⟨q + 1, 0, none⟩ = some (.slice AK es.length cK) := hb3.cell 0
 clear hg3 hr3 hc3 hb3 ho3 hx3 c0
 go_wp2
 go_ret
 exact ⟨_, rfl, HST.out, HG3.out, HX4.out⟩
end Go.Proofs.YtpmpjjhchkoboaaGreatDoor
