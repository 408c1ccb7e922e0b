/-
  GrGetRN, packed: what the claim needs of them.
-/
import Derived.Test.YtpmpjjhchkoboaaGreatDoorPa14
import Derived.Deep.DeepCutAuto
namespace Go.Ox.Gr
open Go.Ox.Num (St numP)
theorem nodeR_eq (d : Nat) (s : St) : nodeR d s =
    ((itrR (nodeR (d - 1)) (cntR (mostP d) (numP (numP (numP (numsR (cntR 2 (numP s).1).2 (cntR 2 (numP s).1).1).1).1).1).1).2 (cntR (mostP d) (numP (numP (numP (numsR (cntR 2 (numP s).1).2 (cntR 2 (numP s).1).1).1).1).1).1).1).1,
     .mk ((numP s).2 : Nat) (numsR (cntR 2 (numP s).1).2 (cntR 2 (numP s).1).1).2 ((numP (numsR (cntR 2 (numP s).1).2 (cntR 2 (numP s).1).1).1).2 : Nat) ((numP (numP (numsR (cntR 2 (numP s).1).2 (cntR 2 (numP s).1).1).1).1).2 : Nat) ((numP (numP (numP (numsR (cntR 2 (numP s).1).2 (cntR 2 (numP s).1).1).1).1).1).2 : Nat)
      (itrR (nodeR (d - 1)) (cntR (mostP d) (numP (numP (numP (numsR (cntR 2 (numP s).1).2 (cntR 2 (numP s).1).1).1).1).1).1).2 (cntR (mostP d) (numP (numP (numP (numsR (cntR 2 (numP s).1).2 (cntR 2 (numP s).1).1).1).1).1).1).1).2) := by
  cases d with
  | succ d => rw [nodeR]; rfl
  | zero =>
    have h : ∀ t : St, itrR (nodeR (0 - 1)) (cntR (mostP 0) t).2 (cntR (mostP 0) t).1 = ((cntR (mostP 0) t).1, []) := fun t => by
      by_cases h0 : (cntR (mostP 0) t).2 = 0
      · rw [h0]; rfl
      · refine itrR_stop ?_ _
        unfold cntR mostP at h0 ⊢
        simp only at h0 ⊢
        have : (0 : Int) < ((numP t).2 : Int) := by omega
        rw [decide_eq_true this, Bool.or_true]
    rw [h, nodeR]
theorem numsR_go {s : St} (h : s.bad = false) (n : Nat) : numsR (n + 1) s = ((numsR n (numP s).1).1, ((numP s).2 : Int) :: (numsR n (numP s).1).2) := by rw [numsR, if_neg (by rw [h]; simp)]
theorem itrR_go {f : St → St × Nd} {s : St} (h : s.bad = false) (n : Nat) : itrR f (n + 1) s = ((itrR f n (f s).1).1, (f s).2 :: (itrR f n (f s).1).2) := by rw [itrR, if_neg (by rw [h]; simp)]
end Go.Ox.Gr
namespace Go.Proofs.YtpmpjjhchkoboaaGreatDoor
open Go.RowKit Go.Ox Go.Ox.Gr
set_option linter.unusedVariables false
set_option linter.unusedSimpArgs false
attribute [local irreducible] RE OE NodesR
/-- the document's reader: its block, where unread bytes may lie: all ahead of B -/
structure RRd (K : Nat → Prop) (B g : Nat) (w : World) (s : Num.St) : Prop where
  nr : RR K w g s
  lg : g < B
  lk : ∀ b, K b → b < B
section
variable {K : Nat → Prop} {B B' g : Nat} {w w' : World} {s s1 : Num.St}
theorem RRd.extQ (h : RRd K B g w s) (he : ExtQ (fun k => B ≤ k) w w') : RRd K B g w' s :=
  ⟨h.nr.kept fun k hk hor => he.block k hk (fun q => by
    have q : B ≤ k := q
    rcases hor with hor | hor
    · have := h.lk k hor; omega
    · have := h.lg; omega), h.lg, h.lk⟩
theorem RRd.ext (h : RRd K B g w s) (he : Ext w w') : RRd K B g w' s := h.extQ (ExtQ.of he)
theorem RRd.up (h : RRd K B g w s) (hb : B ≤ B') : RRd K B' g w s := ⟨h.nr, Nat.lt_of_lt_of_le h.lg hb, fun b hk => Nat.lt_of_lt_of_le (h.lk b hk) hb⟩
theorem RRd.num (h : RRd K B g w s) (hr : RR K w' g s1) : RRd K B g w' s1 := ⟨hr, h.lg, h.lk⟩
theorem RRd.mark (h : RRd K B g w s) : RRd K B g (w.setCell ⟨g, 1, none⟩ (.bool true)) ⟨s.l, true⟩ := ⟨(h.nr.setMark true).1, h.lg, h.lk⟩
theorem RRd.down {s' : Num.St} (h : RRd K B' g w' s') (k : RRd K B g w s) : RRd K B g w' s' := ⟨h.nr, k.lg, k.lk⟩
theorem RRd.at_ (h : RRd K B g w s) : w.cell? ⟨g, 1, none⟩ = some (.bool s.bad) ∧ w.frozen? ⟨g, 1, none⟩ = false := ⟨h.nr.mark.1, h.nr.mark.2.1⟩
end
/-- what was there is as it was, but for the reader -/
abbrev RY (B g : Nat) (w w' : World) : Prop := ExtQ (fun k => k = g ∨ B ≤ k) w w'
end Go.Proofs.YtpmpjjhchkoboaaGreatDoor
namespace Go.Ox.Gr
end Go.Ox.Gr
namespace Go.Proofs.YtpmpjjhchkoboaaGreatDoor
open Go.RowKit Go.Ox Go.Ox.Gr
set_option linter.unusedVariables false
set_option linter.unusedSimpArgs false
attribute [local irreducible] RE OE NodesR
/-- what stands ahead of the loops: the box of the node, that of the result, the reader -/
structure RB2 (K : Nat → Prop) (r q g : Nat) (w0 w : World) (s : Num.St) (op : Int) (u : Value) (kind fa a : Int) (b : Value) : Prop where
  bq : Bx6 w q 112 (.int .i64 op) u (.int .i64 kind) (.int .i64 fa) (.int .i64 a) b
  br : Bx6 w r 112 (.int .i64 0) (.slice none 0 0) (.int .i64 0) (.int .i64 0) (.int .i64 0) (.slice none 0 0)
  rd : RRd K r g w s
  ry : RY r g w0 w
  er : w0.heap.size = r
  lt : r < q
section
variable {K : Nat → Prop} {r q g : Nat} {w0 w w' : World} {s s' : Num.St} {op kind fa a : Int} {u b v : Value}
theorem RB2.ext (h : RB2 K r q g w0 w s op u kind fa a b) (he : Ext w w') : RB2 K r q g w0 w' s op u kind fa a b := ⟨h.bq.ext he, h.br.ext he, h.rd.ext he, h.ry.trans (ExtQ.of he), h.er, h.lt⟩
theorem RB2.num (h : RB2 K r q g w0 w s op u kind fa a b) (hr : RR K w' g s') (he : ExtG g w w') : RB2 K r q g w0 w' s' op u kind fa a b :=
  have hx : ExtQ (fun k => k = g) w w' := ExtQ.extG he rfl
  have hg := h.rd.lg
  have hl := h.lt
  ⟨Bx6.extQ h.bq hx (fun e => by have e : q = g := e; omega), Bx6.extQ h.br hx (fun e => by have e : r = g := e; omega), h.rd.num hr, h.ry.trans (hx.mono fun k hk => .inl hk), h.er, h.lt⟩
theorem RB2.mark (h : RB2 K r q g w0 w s op u kind fa a b) : RB2 K r q g w0 (w.setCell ⟨g, 1, none⟩ (.bool true)) ⟨s.l, true⟩ op u kind fa a b :=
  have hx : ExtQ (fun k => k = g) w (w.setCell ⟨g, 1, none⟩ (.bool true)) := ExtQ.setCell (Q := fun k => k = g) (ExtQ.refl _ _) (p := ⟨g, 1, none⟩) rfl _
  have hg := h.rd.lg
  have hl := h.lt
  ⟨Bx6.extQ h.bq hx (fun e => by have e : q = g := e; omega), Bx6.extQ h.br hx (fun e => by have e : r = g := e; omega), h.rd.mark, h.ry.trans (hx.mono fun k hk => .inl hk), h.er, h.lt⟩
/-- others changed -/
theorem RB2.extQ {Q : Nat → Prop} (h : RB2 K r q g w0 w s op u kind fa a b) (he : ExtQ Q w w') (hq : ∀ k, Q k → r ≤ k ∧ k ≠ q ∧ k ≠ r) : RB2 K r q g w0 w' s op u kind fa a b :=
  ⟨Bx6.extQ h.bq he (fun e => (hq _ e).2.1 rfl), Bx6.extQ h.br he (fun e => (hq _ e).2.2 rfl), h.rd.extQ (he.mono fun k hk => (hq k hk).1), h.ry.trans (he.mono fun k hk => .inr (hq k hk).1), h.er, h.lt⟩
theorem RB2.setq (h : RB2 K r q g w0 w s op u kind fa a b) (i : Nat) : ExtQ (fun k => k = q) w (w.setCell ⟨q, i, none⟩ v) := ExtQ.setCell (Q := fun k => k = q) (ExtQ.refl _ _) (p := ⟨q, i, none⟩) rfl _
theorem RB2.stay (h : RB2 K r q g w0 w s op u kind fa a b) (i : Nat) : Bx6 (w.setCell ⟨q, i, none⟩ v) r 112 (.int .i64 0) (.slice none 0 0) (.int .i64 0) (.int .i64 0) (.int .i64 0) (.slice none 0 0) ∧ RRd K r g (w.setCell ⟨q, i, none⟩ v) s ∧ RY r g w0 (w.setCell ⟨q, i, none⟩ v) :=
  have hl := h.lt
  ⟨Bx6.extQ h.br (h.setq i) (fun e => by have e : r = q := e; omega), h.rd.extQ ((h.setq i).mono fun k (hk : k = q) => by show r ≤ k; omega), h.ry.trans ((h.setq i).mono fun k (hk : k = q) => .inr (by omega))⟩
theorem RB2.set1 (h : RB2 K r q g w0 w s op u kind fa a b) (v : Value) : RB2 K r q g w0 (w.setCell ⟨q, 1, none⟩ v) s op v kind fa a b := ⟨h.bq.set1 v, (h.stay 1).1, (h.stay 1).2.1, (h.stay 1).2.2, h.er, h.lt⟩
theorem RB2.set4 (h : RB2 K r q g w0 w s op u kind fa a b) (x : Int) : RB2 K r q g w0 (w.setCell ⟨q, 4, none⟩ (.int .i64 x)) s op u kind fa x b := ⟨⟨by simpa using h.bq.b.set_ 4 (.int .i64 x)⟩, (h.stay 4).1, (h.stay 4).2.1, (h.stay 4).2.2, h.er, h.lt⟩
theorem RB2.set5 (h : RB2 K r q g w0 w s op u kind fa a b) (v : Value) : RB2 K r q g w0 (w.setCell ⟨q, 5, none⟩ v) s op u kind fa a v := ⟨h.bq.set5 v, (h.stay 5).1, (h.stay 5).2.1, (h.stay 5).2.2, h.er, h.lt⟩
end
/-- a node that was read -/
structure FNd (D N : Nat) (xop xkind xfa xa : Int) (xins : List Int) (xbody : List Nd) (v : Value) (w : World) : Prop where
  ex : ∃ A c B e, v = ndAg xop xkind xfa xa (.slice A xins.length c) (.slice B xbody.length e) ∧ ∀ W, ExtQ (fun k => k < N) w W → RE W (.slice A xins.length c) xins ∧ NodesR D W (.slice B xbody.length e) xbody
structure FNl (D N : Nat) (xop xkind xfa xa : Int) (xins : List Int) (xbody : List Nd) (v : Value) (w : World) : Prop where
  ex : ∃ A c B e, Rd w 6 v 1 [.int .i64 xop, .slice A xins.length c, .int .i64 xkind, .int .i64 xfa, .int .i64 xa, .slice B xbody.length e] ∧ ∀ W, ExtQ (fun k => k < N) w W → RE W (.slice A xins.length c) xins ∧ NodesR D W (.slice B xbody.length e) xbody
theorem FNd.ext {D N : Nat} {xop xkind xfa xa : Int} {xins : List Int} {xbody : List Nd} {v : Value} {w w' : World} (h : FNd D N xop xkind xfa xa xins xbody v w) (he : Ext w w') : FNd D N xop xkind xfa xa xins xbody v w' := by
  obtain ⟨A, c, B, e, h1, h2⟩ := h.ex
  exact ⟨A, c, B, e, h1, fun W hW => h2 W ((ExtQ.of he).trans hW)⟩
theorem FNl.ext {D N : Nat} {xop xkind xfa xa : Int} {xins : List Int} {xbody : List Nd} {v : Value} {w w' : World} (h : FNl D N xop xkind xfa xa xins xbody v w) (he : Ext w w') : FNl D N xop xkind xfa xa xins xbody v w' := by
  obtain ⟨A, c, B, e, h1, h2⟩ := h.ex
  exact ⟨A, c, B, e, Rd.ext h1 he, fun W hW => h2 W ((ExtQ.of he).trans hW)⟩
end Go.Proofs.YtpmpjjhchkoboaaGreatDoor
