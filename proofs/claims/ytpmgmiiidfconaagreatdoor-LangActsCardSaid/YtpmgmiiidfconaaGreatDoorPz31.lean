/-
  RecSame, ScrRdA, ScrRdE, LaPAct, packed: what the claim needs of them.
-/
import Derived.Test.YtpmgmiiidfconaaGreatDoorPz30
import Derived.Test.YtpmgmiiidfconaaGreatDoorPz10
import Derived.Test.YtpmgmiiidfconaaGreatDoorPz18
import Derived.Test.YtpmgmiiidfconaaGreatDoorPz11
import Derived.Test.YtpmgmiiidfconaaGreatDoorChecked
import Derived.Test.YtpmgmiiidfconaaGreatDoorPz02
import Derived.WalkKit
import Derived.WalkSpells
import Derived.WalkLawsBesides
import Derived.StillTailTactics
import Derived.IntWalk
import Derived.Test.YtpmgmiiidfconaaGreatDoorPz04
import Derived.Test.YtpmgmiiidfconaaGreatDoorPz05
import Derived.Test.YtpmgmiiidfconaaGreatDoorPz29
namespace Go.Proofs.YtpmgmiiidfconaaGreatDoor
open Go.RowKit Go.Ox Go.Shelf
attribute [local irreducible] OP RP
set_option linter.unusedVariables false
set_option linter.unusedSimpArgs false
end Go.Proofs.YtpmgmiiidfconaaGreatDoor
namespace Go.Proofs.YtpmgmiiidfconaaGreatDoor
open Go.RowKit Go.Ox Go.Shelf
attribute [local irreducible] OP RP
set_option linter.unusedVariables false
set_option linter.unusedSimpArgs false
set_option maxRecDepth 100000 in
set_option maxHeartbeats 2000000 in
theorem rsame_any (v u : Value) (l r : List Rec.R) (w : World) (hv : RP w v l) (hu : RP w u r) (hl : l.length ≤ 1000000) (hr : r.length ≤ 1000000) :
    Calls Tryz.prog 38 #[v, u] w fun e w' => e = .returned (.bool (decide (Rec.srt l = Rec.srt r))) ∧ Ext w w' := by
  obtain ⟨A, c, rfl⟩ := hv.form
  obtain ⟨B, d, rfl⟩ := hu.form
  by_cases hlen : l.length = r.length
  · have HV := Lib.hid hv
    have HU := Lib.hid hu
    have g1 : ((l.length : Int) == (r.length : Int)) = true := by rw [hlen]; exact beq_self_eq_true _
    have HSL := Lib.hid (fun w hv => rsort_any l (.slice A l.length c) w hv hl)
    have HSR := Lib.hid (fun w hu => rsort_any r (.slice B r.length d) w hu hr)
    clear hv hu hlen hl hr
    go_enter Tryz.func38, Tryz.ntmps38
    go_wp2_with fail
    refine (HSL.out _ HV.out).mono ?_
    rintro e1 w1 ⟨v1, rfl, ho1, he1⟩
    go_wp2_with fail
    refine (HSR.out _ (HU.out.ext he1)).mono ?_
    rintro e2 w2 ⟨v2, rfl, ho2, he2⟩
    go_wp2_with fail
    refine (exact_any _ _ _ _ _ (ho1.ext he2).rp ho2.rp).mono ?_
    rintro e3 w3 ⟨rfl, he3⟩
    go_wp2
    go_ret
    exact ⟨rfl, (he1.trans he2).trans he3⟩
  · have g1 : ((l.length : Int) == (r.length : Int)) = false := by rw [beq_eq_false_iff_ne]; omega
    have HN := Lib.hid (show ¬ Rec.srt l = Rec.srt r from fun h => hlen (by rw [← Rec.srt_len l, ← Rec.srt_len r, h]))
    clear hv hu hlen
    go_enter Tryz.func38, Tryz.ntmps38
    go_wp2
    go_ret
    exact ⟨by rw [decide_eq_false HN.out]; rfl, Ext.refl _⟩
end Go.Proofs.YtpmgmiiidfconaaGreatDoor
namespace Go.Proofs.YtpmgmiiidfconaaGreatDoor
open Go.RowKit Go.Ox Go.Shelf
attribute [local irreducible] OP RP
set_option linter.unusedVariables false
set_option linter.unusedSimpArgs false
end Go.Proofs.YtpmgmiiidfconaaGreatDoor
namespace Go.Proofs.YtpmgmiiidfconaaGreatDoor
open Go.RowKit Go.Ox Go.Shelf
attribute [local irreducible] OP RP
set_option linter.unusedVariables false
set_option linter.unusedSimpArgs false
end Go.Proofs.YtpmgmiiidfconaaGreatDoor
namespace Go.Proofs.YtpmgmiiidfconaaGreatDoor
open Go.RowKit Go.Ox Go.Shelf
attribute [local irreducible] OP RP
set_option linter.unusedVariables false
set_option linter.unusedSimpArgs false
end Go.Proofs.YtpmgmiiidfconaaGreatDoor
namespace Go.Proofs.YtpmgmiiidfconaaGreatDoor
open Go.RowKit Go.Ox Go.Ox.Gr Go.Ox.Sc
set_option linter.unusedVariables false
set_option linter.unusedSimpArgs false
section
variable {Q : Nat → Prop} {w w' : World} {q : Nat} {T : TypeId} {a0 a1 a2 a3 a4 a5 a6 a7 v0 v1 v2 v3 v4 v5 v6 v7 : Value}
theorem Bx8.set8 (h : Bx8 w q T a0 a1 a2 a3 a4 a5 a6 a7) : Bx8 ((((((((w.setCell ⟨q, 0, none⟩ v0).setCell ⟨q, 1, none⟩ v1).setCell ⟨q, 2, none⟩ v2).setCell ⟨q, 3, none⟩ v3).setCell ⟨q, 4, none⟩ v4).setCell ⟨q, 5, none⟩ v5).setCell ⟨q, 6, none⟩ v6).setCell ⟨q, 7, none⟩ v7) q T v0 v1 v2 v3 v4 v5 v6 v7 :=
  ⟨by simpa using (((((((h.b.set_ 0 v0).set_ 1 v1).set_ 2 v2).set_ 3 v3).set_ 4 v4).set_ 5 v5).set_ 6 v6).set_ 7 v7⟩
theorem extQ_set6 (w : World) (q : Nat) : ExtQ (fun k => k = q) w ((((((w.setCell ⟨q, 0, none⟩ v0).setCell ⟨q, 1, none⟩ v1).setCell ⟨q, 2, none⟩ v2).setCell ⟨q, 3, none⟩ v3).setCell ⟨q, 4, none⟩ v4).setCell ⟨q, 5, none⟩ v5) :=
  ExtQ.setCell (Q := fun k => k = q) (ExtQ.setCell (Q := fun k => k = q) (ExtQ.setCell (Q := fun k => k = q) (ExtQ.setCell (Q := fun k => k = q) (ExtQ.setCell (Q := fun k => k = q) (ExtQ.setCell (Q := fun k => k = q) (ExtQ.refl _ _) (p := ⟨q, 0, none⟩) rfl _) (p := ⟨q, 1, none⟩) rfl _) (p := ⟨q, 2, none⟩) rfl _) (p := ⟨q, 3, none⟩) rfl _) (p := ⟨q, 4, none⟩) rfl _) (p := ⟨q, 5, none⟩) rfl _
theorem extQ_set8 (w : World) (q : Nat) : ExtQ (fun k => k = q) w ((((((((w.setCell ⟨q, 0, none⟩ v0).setCell ⟨q, 1, none⟩ v1).setCell ⟨q, 2, none⟩ v2).setCell ⟨q, 3, none⟩ v3).setCell ⟨q, 4, none⟩ v4).setCell ⟨q, 5, none⟩ v5).setCell ⟨q, 6, none⟩ v6).setCell ⟨q, 7, none⟩ v7) :=
  ExtQ.setCell (Q := fun k => k = q) (ExtQ.setCell (Q := fun k => k = q) (extQ_set6 w q) (p := ⟨q, 6, none⟩) rfl _) (p := ⟨q, 7, none⟩) rfl _
end
attribute [local irreducible] RE OE OB RB NodesR EpR InsR ActsR RP OP
end Go.Proofs.YtpmgmiiidfconaaGreatDoor
namespace Go.Proofs.YtpmgmiiidfconaaGreatDoor
open Go.RowKit Go.Ox Go.Ox.Gr Go.Ox.Sc
set_option linter.unusedVariables false
set_option linter.unusedSimpArgs false
def BagQ (W : World) (r : List Value) (b : Bag) : Prop := ∃ u, r = [u] ∧ RP W u b
def EpQ (W : World) (r : List Value) (l : List Bag) : Prop := ∃ u, r = [u] ∧ EpR W u l
theorem RV.of_rs1 {β : Type} {R : World → Value → β → Prop} {w : World} {v : Value} {ls : List β} (h : RS 1 (fun W r x => ∃ u, r = [u] ∧ R W u x) w v ls) : RV R w v ls := by
  obtain ⟨rows, h1, h2, h3⟩ := h.ex
  refine ⟨rows.flatten, by rw [← h2]; exact h1, fun k hk => ?_⟩
  have hall : ∀ r ∈ rows, r.length = 1 := by
    intro r hr
    obtain ⟨j, hj, rfl⟩ := List.getElem_of_mem hr
    exact (h3 j _ (ls[j]'(by omega)) (List.getElem?_eq_getElem hj) (List.getElem?_eq_getElem (by omega))).1
  obtain ⟨r, hr⟩ : ∃ r, rows[k]? = some r := ⟨rows[k]'(by omega), List.getElem?_eq_getElem (by omega)⟩
  obtain ⟨q1, u, rfl, q3⟩ := h3 k r ls[k] hr (List.getElem?_eq_getElem hk)
  refine ⟨u, ?_, q3⟩
  have := flat_atK (i := k) (j := 0) rows hall (by omega) hr
  simpa using this
theorem EpR.of_rs {w : World} {v : Value} {ls : List Bag} (h : RS 1 BagQ w v ls) : EpR w v ls := RV.of_rs1 h
theorem InsR.of_rs {w : World} {v : Value} {ls : List (List Bag)} (h : RS 1 EpQ w v ls) : InsR w v ls := RV.of_rs1 h
theorem elemBag : Elem Tryz.prog 70 67 (.slice none 0 0) 1 24 := Elem.mk' Tryz.underlying70 (by kernel_rfl) rfl (by omega)
theorem elemEp : Elem Tryz.prog 40 70 (.slice none 0 0) 1 24 := Elem.mk' Tryz.underlying40 (by kernel_rfl) rfl (by omega)
theorem elemAct : Elem Tryz.prog 41 24 (.agg #[.int .i64 0, .int .i64 0, .int .i64 0, .int .i64 0, .int .i64 0, .slice none 0 0]) 6 64 := Elem.mk' Tryz.underlying41 (by kernel_rfl) rfl (by omega)
attribute [local irreducible] RE OE OB RB NodesR EpR InsR ActsR RP OP
end Go.Proofs.YtpmgmiiidfconaaGreatDoor
set_option linter.unusedVariables false
set_option linter.unusedSimpArgs false
namespace Go.Proofs.YtpmgmiiidfconaaGreatDoor
open Go.RowKit Go.Ox Go.Ox.Gr Go.Ox.Sc Go.Ox.La Go.Shelf
attribute [local irreducible] RE OE wnB named1 Go.Ox.La.actL
theorem os_ne {β : Type} {K0 : Nat → Prop} {E k base T p : Nat} {Q : World → List Value → β → Prop} {w : World} {v : Value} {ls : List β} {cs : Array Value} (hb : Blk w p T cs) (ho : OS K0 E k base Q w v ls) (hT : T ≠ E) : v.ownBlock ≠ some p := by
  intro e
  obtain ⟨rows, h1, -⟩ := ho.ex
  generalize rows.length = n at h1
  generalize rows.flatten = l at h1
  rcases h1.2 with ⟨rfl, -⟩ | ⟨g, cap, cur, rfl, _, hg, -⟩
  · simp [Value.ownBlock] at e
  · obtain rfl : g = p := by simpa [Value.ownBlock] using e
    have h2 : w.heap[g]? = some (.cells cs T (0, 0)) := hb
    rw [h2] at hg
    injection hg with hg
    injection hg with _ h3
    exact hT h3
theorem exq_set1 (w : World) (p i : Nat) (v : Value) : ExtQ (fun k => k = p) w (w.setCell ⟨p, i, none⟩ v) := ExtQ.setCell (Q := fun k => k = p) (ExtQ.refl _ w) (p := ⟨p, i, none⟩) rfl v
theorem mayK_nil {w : World} {p : Nat} (k : Nat) (h : MayK (fun k => k < p) (.slice none 0 0) w k) : k < p ∨ w.heap.size ≤ k := by
  rcases h with h | h | h
  · exact .inl h
  · simp [Value.ownBlock] at h
  · exact .inr h
def epW9 : W := [101, 112, 111, 99, 104]
theorem act_one9 (k n x y t : Int) (A : Option Addr) (m c : Nat) : ∀ u ∈ ([.int .i64 k, .int .i64 n, .int .i64 x, .int .i64 y, .int .i64 t, .slice A m c] : List Value), u.oneCell' = true := by
  intro u hu
  simp at hu
  rcases hu with rfl | rfl | rfl | rfl | rfl | rfl <;> rfl
set_option maxRecDepth 100000 in
set_option maxHeartbeats 8000000 in
theorem prest_act (w0 : World) (p q : Nat) (x : W) (xs : List W) (g : Sc.Act) (k0 k1 k2 k3 : Int) (nv iv : Value) (out : Int) (w : World) (h : WsR 60 w0 w q (x :: xs) false) (hq : q < w.heap.size)
    (hb : Blk w p 87 (paCs k0 k1 k2 k3 nv out iv (.slice none 0 0) 4)) (hw : ∀ y ∈ x :: xs, y.length ≤ 1000000) (hl : xs.length ≤ 1000) (hx1 : ¬ x :: xs = [epW9]) (hx2 : ¬ x = [105, 110]) (hg : Go.Ox.La.actL (x :: xs) = some g) (ht : Tab w0) :
    Calls Tryz.prog 69 #[.pointer (some ⟨p, 0, none⟩), .pointer (some ⟨q, 0, none⟩)] w fun e w' => e = .returned (.bool true) ∧ ∃ av', Blk w' p 87 (paCs k0 k1 k2 k3 nv out iv av' 5) ∧ (∀ V, ExtQ (fun k => k < w.heap.size) w' V → ActsR V av' [g]) ∧ ExtQ (fun k => k = p ∨ k = q) w w' := by
  have HWS := Lib.hid h
  have HB := Lib.hid hb
  obtain ⟨A, c, hr0, hk⟩ := h.b
  have hr := RE.ext hr0 h.x
  have hne : p ≠ q := blk_two hb hk (by decide)
  have HNE := Lib.hid hne
  have HR := Lib.hid hr
  obtain ⟨bb, oo, rfl, a0⟩ := reW1 hr (k := 0) (by simp)
  rw [Nat.add_zero, List.getElem_cons_zero] at a0
  have d0 := hk.cell 0
  have z8 := hb.cell 8
  have HC := Lib.hid (fun w h hq ht => wact_any w0 q (x :: xs) w h hq hw (by rw [List.length_cons]; omega) ht)
  have HG := Lib.hid hg
  have HTT := Lib.hid ht
  have HX1 := Lib.hid hx1
  have HEQ := Lib.hid (fun v b w hv hx => equal1_any v (x :: xs) epW9 b w hv (by rw [List.length_cons]; omega) hx)
  have HQ := Lib.hid hq
  clear h hq hb hw hl hg hne hr hr0 hk hx1 ht
  go_enter Tryz.func69, Tryz.ntmps69
  go_wp2_with fail
  have he0 : Ext w (w.alloc (.cells #[.string ⟨#[101, 112, 111, 99, 104]⟩] 9)) := (Ext.refl _).alloc _
  refine (HEQ.out _ w.heap.size _ (HR.out.ext he0) (by
    have h1 : Blk (w.alloc (.cells #[.string ⟨#[101, 112, 111, 99, 104]⟩] 9)) w.heap.size 9 #[.string ⟨#[101, 112, 111, 99, 104]⟩] := Blk.new _ _ _
    exact h1.cell 0)).mono ?_
  rintro e w1 ⟨rfl, he1⟩
  have hx := he0.trans he1
  have HX := Lib.hid hx
  have a1 := hx.cell a0
  have d1 := hx.cell d0
  have z1 := hx.cell z8
  rw [decide_eq_false HX1.out]
  have b1 : ((⟨x.toArray⟩ : ByteArray) == ⟨#[105, 110]⟩) = false := bs_f (y := [105, 110]) hx2
  have b2 : ¬ (⟨x.toArray⟩ : ByteArray) = ⟨#[105, 110]⟩ := bs_n (y := [105, 110]) hx2
  have b3 : (x == [105, 110]) = false := by simpa using hx2
  have q1 : 0 < xs.length + 1 := by omega
  clear he0 he1 hx a0 d0 z8
  go_wp2_with fail
  refine (HC.out _ (HWS.out.e HX.out) (Nat.lt_of_lt_of_le HQ.out HX.out.size) (HTT.out)).mono ?_
  rintro e w2 ⟨⟨g', u, hg', rfl, hou⟩, hq2⟩
  rw [HG.out] at hg' ⊢
  obtain rfl : g = g' := hg'
  have HQ2 := Lib.hid ((ExtQ.of (Q := fun k => k = q) HX.out).trans hq2)
  obtain ⟨Au, cu, rfl⟩ := hou.re.form
  have HOU := Lib.hid hou
  have HB2 := Lib.hid (HB.out.extQ HQ2.out HNE.out)
  have HXS := Lib.hid HX.out.size
  have z2 := HB2.out.cell 8
  clear a1 d1 z1 b1 b2 b3 hou hq2 HX HC HEQ hx2
  have hq0 : Ext w2 (w2.alloc (actCs 0 0 0 0 0 (.slice none 0 0))) := (Ext.refl w2).alloc _
  have hb0 := Bx6.new w2 24 (.int .i64 0) (.int .i64 0) (.int .i64 0) (.int .i64 0) (.int .i64 0) (.slice none 0 0)
  have f0 : (w2.alloc (actCs 0 0 0 0 0 (.slice none 0 0))).frozen? ⟨w2.heap.size, 0, none⟩ = false := hb0.b.frozen 0
  have f1 : (w2.alloc (actCs 0 0 0 0 0 (.slice none 0 0))).frozen? ⟨w2.heap.size, 1, none⟩ = false := hb0.b.frozen 1
  have f2 : (w2.alloc (actCs 0 0 0 0 0 (.slice none 0 0))).frozen? ⟨w2.heap.size, 2, none⟩ = false := hb0.b.frozen 2
  have f3 : (w2.alloc (actCs 0 0 0 0 0 (.slice none 0 0))).frozen? ⟨w2.heap.size, 3, none⟩ = false := hb0.b.frozen 3
  have f4 : (w2.alloc (actCs 0 0 0 0 0 (.slice none 0 0))).frozen? ⟨w2.heap.size, 4, none⟩ = false := hb0.b.frozen 4
  have f5 : (w2.alloc (actCs 0 0 0 0 0 (.slice none 0 0))).frozen? ⟨w2.heap.size, 5, none⟩ = false := hb0.b.frozen 5
  clear hb0 hq0
  go_upto_region 11 with fail
  clear f0 f1 f2 f3 f4 f5
  have HQ3 := Lib.hid (show Ext w2 (w2.alloc (actCs g.1.1 g.1.2.1 g.1.2.2.1 g.1.2.2.2.1 g.1.2.2.2.2 (.slice Au g.2.length cu))) from (Ext.refl w2).alloc _)
  have HB6 := Lib.hid (Bx6.new w2 24 (.int .i64 g.1.1) (.int .i64 g.1.2.1) (.int .i64 g.1.2.2.1) (.int .i64 g.1.2.2.2.1) (.int .i64 g.1.2.2.2.2) (.slice Au g.2.length cu))
  obtain ⟨r, hr9⟩ : ∃ r, r = w2.heap.size := ⟨_, rfl⟩
  rw [← hr9] at HB6 ⊢
  have HR9 := Lib.hid hr9
  clear hr9
  generalize w2.alloc (actCs g.1.1 g.1.2.1 g.1.2.2.1 g.1.2.2.2.1 g.1.2.2.2.2 (.slice Au g.2.length cu)) = w3 at *
  have HB3 := Lib.hid (HB2.out.ext HQ3.out)
  have v7 := HB3.out.cell 7
  obtain ⟨c0, c1, c2, c3, c4, c5⟩ := HB6.out.at_
  have HPW := Lib.hid HB3.out.lt
  obtain ⟨N, hN⟩ : ∃ N, N = w.heap.size := ⟨_, rfl⟩
  have HN9 := Lib.hid hN
  clear hN
  have HU3 := Lib.hid (show ∀ V, ExtQ (fun k => k < N ∨ w3.heap.size ≤ k) w3 V → RE V (.slice Au g.2.length cu) g.2 from fun V hV =>
    (oe_extQ' (HOU.out.ext HQ3.out) hV (fun k hk e => by
      have h1 := HOU.out.lt hk
      have h2 := HB.out.lt
      have h3 := HXS.out
      have h4 := HQ3.out.size
      have h5 := HQ2.out.size
      have h6 := HN9.out
      rcases e with e | e <;> omega)).re)
  refine wp_region_tailY 9 [] [] Ext Ext (fun _ => True) (by kernel_rfl) (by kernel_rfl) (by kernel_rfl) (by kernel_rfl) (by kernel_rfl) (by kernel_rfl) (by kernel_rfl) (by rfl) (by rfl) (by kernel_rfl) (by kernel_rfl) (by kernel_rfl) (fun _ _ _ x y => x.trans y) Ext.refl (fun _ _ x => x) (Ext.refl _).drew (fun _ _ x _ => x) trivial ?_
  refine ya ?_
  refine wpY_val rfl rfl (by first | exact runs0 | exact runs1 rfl) Ext.refl rfl ?_; apply Exists.intro; refine ⟨?_, ?_⟩
  · intro a w' hR h1
    have e1 : _ = _ := h1
    have hl0 := (HB3.out.ext hR).cell 7
    go_simp
    rfl
  refine wpY_val rfl rfl (by first | exact runs0 | exact runs1 rfl) Ext.refl rfl ?_; apply Exists.intro; refine ⟨?_, ?_⟩
  · intro a w' hR h1
    have e1 : _ = _ := h1
    have x0 := (HB6.out.ext hR).b.cell 0
    have x1 := (HB6.out.ext hR).b.cell 1
    have x2 := (HB6.out.ext hR).b.cell 2
    have x3 := (HB6.out.ext hR).b.cell 3
    have x4 := (HB6.out.ext hR).b.cell 4
    have x5 := (HB6.out.ext hR).b.cell 5
    go_simp
    rfl
  refine wpY_call (fun v w => Rd w 6 v 1 [.int .i64 g.1.1, .int .i64 g.1.2.1, .int .i64 g.1.2.2.1, .int .i64 g.1.2.2.2.1, .int .i64 g.1.2.2.2.2, .slice Au g.2.length cu]) rfl rfl (by first | exact runs0 | exact runs1 rfl) rfl (fun _ _ _ h k => Rd.ext h k) ?_ ?_
  · intro a w' hR h1 K hK
    have e1 : _ = _ := h1
    have q1 : _ = _ := h1
    rw [Array.getD_eq_getD_getElem?] at q1
    go_simp
    exact hK _ _ ((Ext.refl _).alloc _) (Rd.lit (size := 6) w' #[.int .i64 g.1.1, .int .i64 g.1.2.1, .int .i64 g.1.2.2.1, .int .i64 g.1.2.2.2.1, .int .i64 g.1.2.2.2.2, .slice Au g.2.length cu] 24 1 rfl (by unfold maxLen; omega))
  refine wpY_call (fun v w => OS (fun k => k < N) 24 6 w3.heap.size ActQ w v [g]) rfl rfl (by first | exact runs0 | exact runs1 rfl) rfl (fun _ _ _ h k => OS.ext h k) ?_ ?_
  · intro a w' hR h1 h2 K hK
    have e1 : _ = _ := h1
    obtain ⟨y9, ey9, fy9⟩ : ∃ x, a.tmps.getD 96 undef = x ∧ (fun v w => Rd w 6 v 1 [.int .i64 g.1.1, .int .i64 g.1.2.1, .int .i64 g.1.2.2.1, .int .i64 g.1.2.2.2.1, .int .i64 g.1.2.2.2.2, .slice Au g.2.length cu]) x w' := ⟨_, rfl, h2⟩
    have e1 : _ = _ := h1
    refine wp_appS elemAct w' (.tmp 94) (.tmp 96) rfl w3.heap.size _ _ ([] : List Sc.Act) e1 (OS.nil (fun k => k < N) 24 6 w3.heap.size ActQ w') ey9 _ g fy9 (act_one9 _ _ _ _ _ _ _ _) rfl (fun V hV => ⟨_, rfl, HU3.out V ((ExtQ.of hR).trans (hV.mono fun k hk => (mayK_nil k hk).imp_right (Nat.le_trans hR.size)))⟩) (by simp) (by unfold maxLen; simp) hR.size ?_
    intro v' w3 ho3 hg3
    exact hK _ _ (ExtQ.ext (Q := fun _ => False) (ExtQ.grown hg3 (fun k hk => by simp [Value.ownBlock] at hk)) (fun _ h => h.elim)) ho3
  refine wpY_done ?_
  intro w4 hx4 hS
  iterate 7 (rintro _ rfl)
  rintro v96 h96
  rintro v97 h97
  dsimp only [FinV]
  go_simp
  have hx4 : Ext w3 w4 := hx4
  have HB4 := Lib.hid (HB3.out.ext hx4)
  have HA4 := Lib.hid (show OS (fun k => k < N) 24 6 w3.heap.size ActQ w4 v97 [g] from h97)
  have HX4 := Lib.hid ((HQ2.out.trans (ExtQ.of HQ3.out)).trans (ExtQ.of hx4))
  obtain ⟨A4, c4', rfl⟩ := HA4.out.form
  clear hx4 hS h96 h97 c0 c1 c2 c3 c4 c5 v7
  have f7 := HB4.out.frozen 7
  have f8 := HB4.out.frozen 8
  have z7 := HB4.out.cell 7
  have z8 := HB4.out.cell 8
  simp only [thenTail, List.drop_succ_cons, List.drop_zero]
  go_wp2
  go_ret
  have hst : ExtQ (fun k => k = p) w4 ((w4.setCell ⟨p, 7, none⟩ (.slice A4 1 c4')).setCell ⟨p, 8, none⟩ (.int .i64 5)) := (exq_set1 w4 p 7 _).trans (exq_set1 _ p 8 _)
  have HSW := Lib.hid (show N ≤ w3.heap.size from by have h0 := HN9.out; have h1 := HXS.out; have h2 := HQ3.out.size; have h3 := HQ2.out.size; omega)
  have hOs := HA4.out.extQ (hst.mono (Q' := fun k => k < N) fun k (hk : k = p) => by have h2 := HB.out.lt; have h3 := HN9.out; show k < N; omega) (fun j hj => .inl hj) (fun j hj e => by have h1 := HA4.out.lt hj; have h2 := HSW.out; omega)
  refine ⟨rfl, _, by simpa using (HB4.out.set_ 7 (.slice A4 1 c4')).set_ 8 (.int .i64 5), fun V hV => (hOs.extQ (hV.mono (Q' := fun k => k < N) fun k hk => by have h3 := HN9.out; omega) (fun j hj => .inl hj) (fun j hj e => ?_)).rs, (HX4.out.mono fun k hk => .inr hk).trans (hst.mono fun k hk => .inl hk)⟩
  have h1 := hOs.lt hj
  have h2 := HSW.out
  omega
end Go.Proofs.YtpmgmiiidfconaaGreatDoor
