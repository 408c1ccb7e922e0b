/-
  GrGetRN, packed: what the claim needs of them.
-/
import Derived.Test.YtpmpjjhchkoboaaGreatDoorPc13
import Derived.Deep.DeepCutAuto
open Go.Lib (hid)
set_option linter.unusedSimpArgs false
set_option linter.unusedVariables false
set_option maxRecDepth 100000
namespace Go.Ox.Gr
open Go.Ox.Num (St numP)
theorem nodeR_eq (d : Nat) (s : St) : nodeR d s =
 ((itrR (nodeR (d - 1)) (cntR (mostP d) (numP (numP (numP (numsR (cntR 2 (numP s).1).2 (cntR 2 (numP s).1).1).1).1).1).1).2 (cntR (mostP d) (numP (numP (numP (numsR (cntR 2 (numP s).1).2 (cntR 2 (numP s).1).1).1).1).1).1).1).1,
  .mk ((numP s).2 : Nat) (numsR (cntR 2 (numP s).1).2 (cntR 2 (numP s).1).1).2 ((numP (numsR (cntR 2 (numP s).1).2 (cntR 2 (numP s).1).1).1).2 : Nat) ((numP (numP (numsR (cntR 2 (numP s).1).2 (cntR 2 (numP s).1).1).1).1).2 : Nat) ((numP (numP (numP (numsR (cntR 2 (numP s).1).2 (cntR 2 (numP s).1).1).1).1).1).2 : Nat)
   (itrR (nodeR (d - 1)) (cntR (mostP d) (numP (numP (numP (numsR (cntR 2 (numP s).1).2 (cntR 2 (numP s).1).1).1).1).1).1).2 (cntR (mostP d) (numP (numP (numP (numsR (cntR 2 (numP s).1).2 (cntR 2 (numP s).1).1).1).1).1).1).1).2) := by
 cases d with
 | succ d => rw [nodeR]; rfl
 | zero =>
  have h : ∀ t : St, itrR (nodeR (0 - 1)) (cntR (mostP 0) t).2 (cntR (mostP 0) t).1 = ((cntR (mostP 0) t).1, []) := fun t => by
   by_cases h0 : (cntR (mostP 0) t).2 = 0
   · rw [h0]; rfl
   · refine itrR_stop ?_ _
     unfold cntR mostP at h0 ⊢
     simp only at h0 ⊢
     have : (0 : Int) < ((numP t).2 : Int) := by omega
     rw [decide_eq_true this, Bool.or_true]
  rw [h, nodeR]
theorem numsR_go {s : St} (h : s.bad = false) (n : Nat) : numsR (n + 1) s = ((numsR n (numP s).1).1, ((numP s).2 : Int) :: (numsR n (numP s).1).2) := by rw [numsR, if_neg (by rw [h]; simp)]
theorem itrR_go {f : St → St × Nd} {s : St} (h : s.bad = false) (n : Nat) : itrR f (n + 1) s = ((itrR f n (f s).1).1, (f s).2 :: (itrR f n (f s).1).2) := by rw [itrR, if_neg (by rw [h]; simp)]
theorem numsR_len : ∀ (n : Nat) (s : St), (numsR n s).1.l.length ≤ s.l.length
 | 0, s => Nat.le_refl _
 | n + 1, s => by
  unfold numsR
  split
  · exact Nat.le_refl _
  · exact Nat.le_trans (numsR_len n _) (Num.numP_len s)
theorem itrR_len {f : St → St × Nd} (h : ∀ s, (f s).1.l.length ≤ s.l.length) : ∀ (n : Nat) (s : St), (itrR f n s).1.l.length ≤ s.l.length
 | 0, s => Nat.le_refl _
 | n + 1, s => by
  unfold itrR
  split
  · exact Nat.le_refl _
  · exact Nat.le_trans (itrR_len h n _) (h s)
theorem cntR_len (m : Int) (s : St) : (cntR m s).1.l.length ≤ s.l.length := Num.numP_len s
theorem nodeR_len : ∀ (d : Nat) (s : St), (nodeR d s).1.l.length ≤ s.l.length := fun d => by
 induction d with
 | zero =>
  intro s
  rw [nodeR]
  dsimp only
  have a1 := Num.numP_len s
  generalize numP s = t1 at *
  have a2 := cntR_len 2 t1.1
  generalize cntR 2 t1.1 = c at *
  have a3 := numsR_len c.2 c.1
  generalize numsR c.2 c.1 = i at *
  have a4 := Num.numP_len i.1
  generalize numP i.1 = t3 at *
  have a5 := Num.numP_len t3.1
  generalize numP t3.1 = t4 at *
  have a6 := Num.numP_len t4.1
  generalize numP t4.1 = t5 at *
  have a7 := cntR_len (mostP 0) t5.1
  generalize cntR (mostP 0) t5.1 = b at *
  omega
 | succ d ih =>
  intro s
  rw [nodeR]
  dsimp only
  have a1 := Num.numP_len s
  generalize numP s = t1 at *
  have a2 := cntR_len 2 t1.1
  generalize cntR 2 t1.1 = c at *
  have a3 := numsR_len c.2 c.1
  generalize numsR c.2 c.1 = i at *
  have a4 := Num.numP_len i.1
  generalize numP i.1 = t3 at *
  have a5 := Num.numP_len t3.1
  generalize numP t3.1 = t4 at *
  have a6 := Num.numP_len t4.1
  generalize numP t4.1 = t5 at *
  have a7 := cntR_len (mostP (d + 1)) t5.1
  generalize cntR (mostP (d + 1)) t5.1 = b at *
  have a8 := itrR_len ih b.2 b.1
  generalize itrR (nodeR d) b.2 b.1 = z at *
  omega
end Go.Ox.Gr
namespace Go.Proofs.YtpmpjjhchkoboaaGreatDoor
open Go.RowKit Go.Ox Go.Ox.Gr
attribute [local irreducible] RE OE NodesR
structure RRd (K : Nat → Prop) (B g : Nat) (w : World) (s : Num.St) : Prop where
 nr : RR K w g s
 lg : g < B
 lk : ∀ b, K b → b < B
section
variable {K : Nat → Prop} {B B' g : Nat} {w w' : World} {s s1 : Num.St}
theorem RRd.extQ (h : RRd K B g w s) (he : ExtQ (fun k => B ≤ k) w w') : RRd K B g w' s :=
 ⟨h.nr.kept fun k hk hor => he.block k hk (fun q => by
  have q : B ≤ k := q
  rcases hor with hor | hor
  · have := h.lk k hor; omega
  · have := h.lg; omega), h.lg, h.lk⟩
theorem RRd.ext (h : RRd K B g w s) (he : Ext w w') : RRd K B g w' s := h.extQ (ExtQ.of he)
theorem RRd.up (h : RRd K B g w s) (hb : B ≤ B') : RRd K B' g w s := ⟨h.nr, Nat.lt_of_lt_of_le h.lg hb, fun b hk => Nat.lt_of_lt_of_le (h.lk b hk) hb⟩
theorem RRd.num (h : RRd K B g w s) (hr : RR K w' g s1) : RRd K B g w' s1 := ⟨hr, h.lg, h.lk⟩
theorem RRd.mark (h : RRd K B g w s) : RRd K B g (w.setCell ⟨g, 1, none⟩ (.bool true)) ⟨s.l, true⟩ := ⟨(h.nr.setMark true).1, h.lg, h.lk⟩
theorem RRd.down {s' : Num.St} (h : RRd K B' g w' s') (k : RRd K B g w s) : RRd K B g w' s' := ⟨h.nr, k.lg, k.lk⟩
theorem RRd.at_ (h : RRd K B g w s) : w.cell? ⟨g, 1, none⟩ = some (.bool s.bad) ∧ w.frozen? ⟨g, 1, none⟩ = false := ⟨h.nr.mark.1, h.nr.mark.2.1⟩
end
def RnC (d : Nat) : Prop := ∀ (K : Nat → Prop) (B g : Nat) (s : Num.St) (w : World), RRd K B g w s → B ≤ w.heap.size → s.l.length ≤ 1000000 →
 Calls Tryz.prog 111 #[.pointer (some ⟨g, 0, none⟩), .bool (decide (0 < d))] w fun e w' => ∃ u b, e = .returned (ndAg (nodeR d s).2.op (nodeR d s).2.kind (nodeR d s).2.fa (nodeR d s).2.a u b) ∧
  (∀ W, ExtQ (fun k => k < w.heap.size) w' W → RE W u (nodeR d s).2.ins ∧ NodesR d W b (nodeR d s).2.body) ∧ RRd K B g w' (nodeR d s).1 ∧ ExtQ (fun k => k = g) w w'
abbrev RY (B g : Nat) (w w' : World) : Prop := ExtQ (fun k => k = g ∨ B ≤ k) w w'
end Go.Proofs.YtpmpjjhchkoboaaGreatDoor
namespace Go.Ox.Gr
theorem NodesR.of_os {K0 : Nat → Prop} {E base d : Nat} {w : World} {v : Value} {l : List Nd} (h : OS K0 E 6 base (NdQ (NodesR (d - 1))) w v l) (h0 : 0 < d ∨ l = []) : NodesR d w v l := by
 cases d with
 | succ d => exact NodesR.of_rs h.rs
 | zero =>
  obtain rfl : l = [] := h0.elim (fun q => absurd q (Nat.lt_irrefl _)) id
  exact (RS.map (Q' := fun _ _ _ => False) h.rs fun r x hx _ => absurd hx List.not_mem_nil : RS 6 (fun _ _ _ => False) w v [])
end Go.Ox.Gr
namespace Go.Proofs.YtpmpjjhchkoboaaGreatDoor
open Go.RowKit Go.Ox Go.Ox.Gr
attribute [local irreducible] RE OE NodesR
structure RB2 (K : Nat → Prop) (r q g : Nat) (w0 w : World) (s : Num.St) (op : Int) (u : Value) (kind fa a : Int) (b : Value) : Prop where
 bq : Bx6 w q 112 (.int .i64 op) u (.int .i64 kind) (.int .i64 fa) (.int .i64 a) b
 br : Bx6 w r 112 (.int .i64 0) (.slice none 0 0) (.int .i64 0) (.int .i64 0) (.int .i64 0) (.slice none 0 0)
 rd : RRd K r g w s
 ry : RY r g w0 w
 er : w0.heap.size = r
 lt : r < q
section
variable {K : Nat → Prop} {r q g : Nat} {w0 w w' : World} {s s' : Num.St} {op kind fa a : Int} {u b v : Value}
theorem RB2.ext (h : RB2 K r q g w0 w s op u kind fa a b) (he : Ext w w') : RB2 K r q g w0 w' s op u kind fa a b := ⟨h.bq.ext he, h.br.ext he, h.rd.ext he, h.ry.trans (ExtQ.of he), h.er, h.lt⟩
theorem RB2.num (h : RB2 K r q g w0 w s op u kind fa a b) (hr : RR K w' g s') (he : ExtG g w w') : RB2 K r q g w0 w' s' op u kind fa a b :=
 have hx : ExtQ (fun k => k = g) w w' := ExtQ.extG he rfl
 have hg := h.rd.lg
 have hl := h.lt
 ⟨Bx6.extQ h.bq hx (fun e => by have e : q = g := e; omega), Bx6.extQ h.br hx (fun e => by have e : r = g := e; omega), h.rd.num hr, h.ry.trans (hx.mono fun k hk => .inl hk), h.er, h.lt⟩
theorem RB2.mark (h : RB2 K r q g w0 w s op u kind fa a b) : RB2 K r q g w0 (w.setCell ⟨g, 1, none⟩ (.bool true)) ⟨s.l, true⟩ op u kind fa a b :=
 have hx : ExtQ (fun k => k = g) w (w.setCell ⟨g, 1, none⟩ (.bool true)) := ExtQ.setCell (Q := fun k => k = g) (ExtQ.refl _ _) (p := ⟨g, 1, none⟩) rfl _
 have hg := h.rd.lg
 have hl := h.lt
 ⟨Bx6.extQ h.bq hx (fun e => by have e : q = g := e; omega), Bx6.extQ h.br hx (fun e => by have e : r = g := e; omega), h.rd.mark, h.ry.trans (hx.mono fun k hk => .inl hk), h.er, h.lt⟩
theorem RB2.extQ {Q : Nat → Prop} (h : RB2 K r q g w0 w s op u kind fa a b) (he : ExtQ Q w w') (hq : ∀ k, Q k → r ≤ k ∧ k ≠ q ∧ k ≠ r) : RB2 K r q g w0 w' s op u kind fa a b :=
 ⟨Bx6.extQ h.bq he (fun e => (hq _ e).2.1 rfl), Bx6.extQ h.br he (fun e => (hq _ e).2.2 rfl), h.rd.extQ (he.mono fun k hk => (hq k hk).1), h.ry.trans (he.mono fun k hk => .inr (hq k hk).1), h.er, h.lt⟩
theorem RB2.setq (h : RB2 K r q g w0 w s op u kind fa a b) (i : Nat) : ExtQ (fun k => k = q) w (w.setCell ⟨q, i, none⟩ v) := ExtQ.setCell (Q := fun k => k = q) (ExtQ.refl _ _) (p := ⟨q, i, none⟩) rfl _
theorem RB2.stay (h : RB2 K r q g w0 w s op u kind fa a b) (i : Nat) : Bx6 (w.setCell ⟨q, i, none⟩ v) r 112 (.int .i64 0) (.slice none 0 0) (.int .i64 0) (.int .i64 0) (.int .i64 0) (.slice none 0 0) ∧ RRd K r g (w.setCell ⟨q, i, none⟩ v) s ∧ RY r g w0 (w.setCell ⟨q, i, none⟩ v) :=
 have hl := h.lt
 ⟨Bx6.extQ h.br (h.setq i) (fun e => by have e : r = q := e; omega), h.rd.extQ ((h.setq i).mono fun k (hk : k = q) => by show r ≤ k; omega), h.ry.trans ((h.setq i).mono fun k (hk : k = q) => .inr (by omega))⟩
theorem RB2.set1 (h : RB2 K r q g w0 w s op u kind fa a b) (v : Value) : RB2 K r q g w0 (w.setCell ⟨q, 1, none⟩ v) s op v kind fa a b := ⟨h.bq.set1 v, (h.stay 1).1, (h.stay 1).2.1, (h.stay 1).2.2, h.er, h.lt⟩
theorem RB2.set2 (h : RB2 K r q g w0 w s op u kind fa a b) (x : Int) : RB2 K r q g w0 (w.setCell ⟨q, 2, none⟩ (.int .i64 x)) s op u x fa a b := ⟨⟨by simpa using h.bq.b.set_ 2 (.int .i64 x)⟩, (h.stay 2).1, (h.stay 2).2.1, (h.stay 2).2.2, h.er, h.lt⟩
theorem RB2.set3 (h : RB2 K r q g w0 w s op u kind fa a b) (x : Int) : RB2 K r q g w0 (w.setCell ⟨q, 3, none⟩ (.int .i64 x)) s op u kind x a b := ⟨⟨by simpa using h.bq.b.set_ 3 (.int .i64 x)⟩, (h.stay 3).1, (h.stay 3).2.1, (h.stay 3).2.2, h.er, h.lt⟩
theorem RB2.set4 (h : RB2 K r q g w0 w s op u kind fa a b) (x : Int) : RB2 K r q g w0 (w.setCell ⟨q, 4, none⟩ (.int .i64 x)) s op u kind fa x b := ⟨⟨by simpa using h.bq.b.set_ 4 (.int .i64 x)⟩, (h.stay 4).1, (h.stay 4).2.1, (h.stay 4).2.2, h.er, h.lt⟩
theorem RB2.set5 (h : RB2 K r q g w0 w s op u kind fa a b) (v : Value) : RB2 K r q g w0 (w.setCell ⟨q, 5, none⟩ v) s op u kind fa a v := ⟨h.bq.set5 v, (h.stay 5).1, (h.stay 5).2.1, (h.stay 5).2.2, h.er, h.lt⟩
theorem RB2.fz (h : RB2 K r q g w0 w s op u kind fa a b) (i : Nat) : w.frozen? ⟨q, i, none⟩ = false := h.bq.b.frozen i
end
theorem OE.keep {E B x : Nat} {w w' : World} {v : Value} {l : List Int} (h : OE E B w v l) (he : ExtQ (fun k => k = x) w w') (hx : x < B) : OE E B w' v l := OE.extQ' h he (fun k hk (e : k = x) => by have := (h.own.lt k hk).1; omega)
structure FNd (D N : Nat) (xop xkind xfa xa : Int) (xins : List Int) (xbody : List Nd) (v : Value) (w : World) : Prop where
 ex : ∃ A c B e, v = ndAg xop xkind xfa xa (.slice A xins.length c) (.slice B xbody.length e) ∧ ∀ W, ExtQ (fun k => k < N) w W → RE W (.slice A xins.length c) xins ∧ NodesR D W (.slice B xbody.length e) xbody
structure FNl (D N : Nat) (xop xkind xfa xa : Int) (xins : List Int) (xbody : List Nd) (v : Value) (w : World) : Prop where
 ex : ∃ A c B e, Rd w 6 v 1 [.int .i64 xop, .slice A xins.length c, .int .i64 xkind, .int .i64 xfa, .int .i64 xa, .slice B xbody.length e] ∧ ∀ W, ExtQ (fun k => k < N) w W → RE W (.slice A xins.length c) xins ∧ NodesR D W (.slice B xbody.length e) xbody
theorem FNd.ext {D N : Nat} {xop xkind xfa xa : Int} {xins : List Int} {xbody : List Nd} {v : Value} {w w' : World} (h : FNd D N xop xkind xfa xa xins xbody v w) (he : Ext w w') : FNd D N xop xkind xfa xa xins xbody v w' := by
 obtain ⟨A, c, B, e, h1, h2⟩ := h.ex
 exact ⟨A, c, B, e, h1, fun W hW => h2 W ((ExtQ.of he).trans hW)⟩
theorem FNl.ext {D N : Nat} {xop xkind xfa xa : Int} {xins : List Int} {xbody : List Nd} {v : Value} {w w' : World} (h : FNl D N xop xkind xfa xa xins xbody v w) (he : Ext w w') : FNl D N xop xkind xfa xa xins xbody v w' := by
 obtain ⟨A, c, B, e, h1, h2⟩ := h.ex
 exact ⟨A, c, B, e, Rd.ext h1 he, fun W hW => h2 W ((ExtQ.of he).trans hW)⟩
set_option maxHeartbeats 16000000 in
theorem rnode_of (d : Nat) (hd : d ≤ 1) (hn : 0 < d → RnC (d - 1)) : RnC d := by
 intro K B g s w h hB hl
 have H0 := hid h
 have HNO := hid hn
 have HA := hid ((h.up hB).ext ((Ext.refl w).alloc (ndCs 0 0 0 0 (.slice none 0 0) (.slice none 0 0))))
 have HRA := hid (Bx6.new w 112 (.int .i64 0) (.slice none 0 0) (.int .i64 0) (.int .i64 0) (.int .i64 0) (.slice none 0 0))
 have HXA := hid (show RY w.heap.size g w (w.alloc (ndCs 0 0 0 0 (.slice none 0 0) (.slice none 0 0))) from ExtQ.of ((Ext.refl w).alloc _))
 have HN1 := hid (rnum_any g s _ HA.out.nr hl)
 have HW := hid (nodeR_eq d s)
 have HFL := hid (nodeR_len (d - 1))
 generalize nodeR d s = RW at *
 have hl1 := Num.numP_len s
 generalize Num.numP s = t at *
 obtain ⟨s1, n1⟩ := t
 dsimp only at *
 have HN2 := hid (fun w (h : RR K w g s1) => rnum_any g s1 w h (by omega))
 have hl2 := Num.numP_len s1
 have hc2 : cntR 2 s1 = (⟨(Num.numP s1).1.l, (Num.numP s1).1.bad || decide ((2 : Int) < ((Num.numP s1).2 : Int))⟩, (Num.numP s1).2) := rfl
 rw [hc2] at HW
 clear hc2
 generalize Num.numP s1 = t at *
 obtain ⟨⟨l2, b2⟩, k⟩ := t
 dsimp only at *
 have HBK := hid (show (b2 || decide ((2 : Int) < (k : Int))) = true ∨ k ≤ 2 by by_cases q : k ≤ 2; exact .inr q; exact .inl (by rw [decide_eq_true (by omega), Bool.or_true]))
 obtain ⟨bk, hbk⟩ : ∃ bk, bk = (b2 || decide ((2 : Int) < (k : Int))) := ⟨_, rfl⟩
 rw [← hbk] at HW HBK
 have HBE := hid hbk
 clear hbk
 have hl3 := numsR_len k ⟨l2, bk⟩
 obtain ⟨RS1, hrs⟩ : ∃ RS1, numsR k ⟨l2, bk⟩ = RS1 := ⟨_, rfl⟩
 rw [hrs] at HW hl3
 have HRS := hid hrs
 clear hrs
 obtain ⟨s3, LI⟩ := RS1
 dsimp only at *
 have HN3 := hid (fun w (h : RR K w g s3) => rnum_any g s3 w h (by omega))
 have hl4 := Num.numP_len s3
 generalize Num.numP s3 = t at *
 obtain ⟨s4, n3⟩ := t
 dsimp only at *
 have HN4 := hid (fun w (h : RR K w g s4) => rnum_any g s4 w h (by omega))
 have hl5 := Num.numP_len s4
 generalize Num.numP s4 = t at *
 obtain ⟨s5, n4⟩ := t
 dsimp only at *
 have HN5 := hid (fun w (h : RR K w g s5) => rnum_any g s5 w h (by omega))
 have hl6 := Num.numP_len s5
 generalize Num.numP s5 = t at *
 obtain ⟨s6, n5⟩ := t
 dsimp only at *
 have HN6 := hid (fun w (h : RR K w g s6) => rnum_any g s6 w h (by omega))
 have hl7 := Num.numP_len s6
 have hc7 : cntR (mostP d) s6 = (⟨(Num.numP s6).1.l, (Num.numP s6).1.bad || decide (mostP d < ((Num.numP s6).2 : Int))⟩, (Num.numP s6).2) := rfl
 rw [hc7] at HW
 clear hc7
 generalize Num.numP s6 = t at *
 obtain ⟨⟨l7, b7⟩, nb⟩ := t
 dsimp only at *
 have HL2 := hid (show l2.length ≤ 1000000 ∧ l7.length ≤ 1000000 from ⟨by omega, by omega⟩)
 clear h hB hl hn hl1 hl2 hl3 hl4 hl5 hl6 hl7
 go_enter Tryz.func111, Tryz.ntmps111
 go_upto_region 1 with fail
 obtain ⟨r, hr⟩ : ∃ r, r = w.heap.size := ⟨_, rfl⟩
 rw [← hr] at HA HRA HXA ⊢
 have HR := hid hr
 clear hr
 generalize w.alloc (ndCs 0 0 0 0 (.slice none 0 0) (.slice none 0 0)) = wA at *
 go_wp2_with fail
 refine HN1.out.mono ?_
 rintro e w1 ⟨rfl, hr1, he1⟩
 have hal := (Ext.refl w1).alloc (ndCs (n1 : Nat) 0 0 0 (.slice none 0 0) (.slice none 0 0))
 have HQ2 := hid (show RB2 K r w1.heap.size g w (w1.alloc (ndCs (n1 : Nat) 0 0 0 (.slice none 0 0) (.slice none 0 0))) s1 (n1 : Nat) (.slice none 0 0) 0 0 0 (.slice none 0 0) from
  have hx := ExtQ.extG (Q := fun k => k = g) he1 rfl
  have hR1 := Bx6.extQ HRA.out hx (fun e => by have e : r = g := e; have := HA.out.lg; omega)
  ⟨Bx6.new w1 _ _ _ _ _ _ _, hR1.ext hal, (HA.out.num hr1).ext hal, (HXA.out.trans (hx.mono fun k hk => .inl hk)).trans (ExtQ.of hal), HR.out.symm, hR1.b.lt⟩)
 clear hr1 he1 hal
 go_upto_region 2 with fail
 generalize w1.heap.size = q at *
 generalize w1.alloc (ndCs (n1 : Nat) 0 0 0 (.slice none 0 0) (.slice none 0 0)) = w2 at *
 go_wp2_with fail
 refine (HN2.out _ HQ2.out.rd.nr).mono ?_
 rintro e w3 ⟨rfl, hr3, he3⟩
 have HQ3 := hid (HQ2.out.num hr3 he3)
 clear hr3 he3
 obtain ⟨c1, f1⟩ := HQ3.out.rd.at_
 go_upto_if 16 with fail
 go_cut [] (fun wx => RB2 K r q g w wx ⟨l2, bk⟩ (n1 : Nat) (.slice none 0 0) 0 0 0 (.slice none 0 0))
 case first =>
  by_cases h2 : (k : Int) > 2
  · have HM := hid (show RB2 K r q g w (w3.setCell ⟨g, 1, none⟩ (.bool true)) ⟨l2, bk⟩ (n1 : Nat) (.slice none 0 0) 0 0 0 (.slice none 0 0) from by
     have h := HQ3.out.mark
     rw [show bk = true from by rw [HBE.out, decide_eq_true (by omega), Bool.or_true]]; exact h)
    go_wp2
    go_meet
    exact HM.out
  · have HM := hid (show RB2 K r q g w w3 ⟨l2, bk⟩ (n1 : Nat) (.slice none 0 0) 0 0 0 (.slice none 0 0) from by
     rw [show bk = b2 from by rw [HBE.out, decide_eq_false (by omega), Bool.or_false]]; exact HQ3.out)
    go_wp2
    go_meet
    exact HM.out
 case rest =>
 have HQ4 := hid hcut
 clear hcut c1 f1
 rename World => w4
 have HSZ := hid (show q < w4.heap.size ∧ r < w4.heap.size from ⟨HQ4.out.bq.b.lt, HQ4.out.br.b.lt⟩)
 have HGR := hid (show g < r ∧ r < q from ⟨HQ4.out.rd.lg, HQ4.out.lt⟩)
 go_wp2
 go_loopw [7] (fun iv wr => ∃ (m : Nat) (s' : Num.St) (acc : List Int), iv = .int .i64 (acc.length : Int) ∧ acc.length + m = k ∧ numsR k ⟨l2, bk⟩ = ((numsR m s').1, acc ++ (numsR m s').2) ∧ (s'.bad = true ∨ k ≤ 2) ∧ s'.l.length ≤ 1000000 ∧
  ∃ sl, OE 3 w4.heap.size wr sl acc ∧ RB2 K r q g w wr s' (n1 : Nat) sl 0 0 0 (.slice none 0 0) ∧ w4.heap.size ≤ wr.heap.size) (fun iv _ => k - (intOf iv).toNat)
 case atStart => exact ⟨k, ⟨l2, bk⟩, [], rfl, by simp, by simp, HBK.out, HL2.out.1, _, OE.nilS _ _ _, HQ4.out, Nat.le_refl _⟩
 case round =>
  obtain ⟨m, s', acc, rfl, hmk, hit, hbk, hll, sl, ho, hq, hz⟩ := hrel
  obtain ⟨j, hj⟩ : ∃ j, acc.length = j := ⟨_, rfl⟩
  rw [hj] at hmk ⊢
  have HMK := hid hmk
  have HIT := hid hit
  have HBD := hid hbk
  have HLL := hid hll
  have HO := hid ho
  have HQ := hid hq
  have HZ := hid hz
  have HJ := hid hj
  obtain ⟨AO, cO, hvo⟩ := ho.re.form
  rw [hj] at hvo
  obtain ⟨c1, f1⟩ := hq.rd.at_
  obtain ⟨cc, hcc⟩ : ∃ cc, cc = (decide (j < k) && !s'.bad) := ⟨_, rfl⟩
  have HCC := hid hcc
  clear hmk hit hbk hll ho hq hz hcc hj
  go_upto_region 6 with fail
  go_cut [29] (fun s29 wx => s29 = .bool cc ∧ wx = wr)
  case first =>
   by_cases hk : j < k
   · have q1 : (j : Int) < (k : Int) := by omega
     have HK := hid hk
     clear hk hvo
     cases hb : s'.bad with
     | true =>
      rw [hb] at c1
      have HB := hid hb
      clear hb
      go_wp2
      go_meet
      exact ⟨by rw [HCC.out, HB.out, Bool.not_true, Bool.and_false], rfl⟩
     | false =>
      rw [hb] at c1
      have HB := hid hb
      clear hb
      go_wp2
      go_meet
      exact ⟨by rw [HCC.out, HB.out, decide_eq_true HK.out]; rfl, rfl⟩
   · have q1 : ¬ (j : Int) < (k : Int) := by omega
     have HK := hid hk
     clear hk hvo
     go_wp2
     go_meet
     exact ⟨by rw [HCC.out, decide_eq_false HK.out]; rfl, rfl⟩
  case rest =>
  obtain ⟨rfl, hwx⟩ := hcut
  subst hwx
  rename World => wr
  subst hvo
  have HOW := hid (show (Value.slice AO j cO).ownBlock ≠ some q ∧ (Value.slice AO j cO).ownBlock ≠ some r ∧ (Value.slice AO j cO).ownBlock ≠ some g from by
   have h1 := HSZ.out
   have h2 := HGR.out
   exact ⟨fun e => by have := (HO.out.own.lt _ e).1; omega, fun e => by have := (HO.out.own.lt _ e).1; omega, fun e => by have := (HO.out.own.lt _ e).1; omega⟩)
  cases cc with
  | true =>
   have HB := hid (show j < k ∧ s'.bad = false from by have := HCC.out.symm; simpa using this)
   have HK2 := hid (show k ≤ 2 from HBD.out.elim (fun h => by rw [HB.out.2] at h; cases h) id)
   obtain ⟨m, rfl⟩ : ∃ m', m = m' + 1 := ⟨m - 1, by have h1 := HMK.out; have h2 := HB.out.1; omega⟩
   have hgo := numsR_go HB.out.2 m
   rw [hgo] at HIT
   have HNU := hid (fun w (h : RR K w g s') => rnum_any g s' w h HLL.out)
   have HLN := hid (Nat.le_trans (Num.numP_len s') HLL.out)
   have hj2 : j ≤ 2 := by have h1 := HB.out.1; have h2 := HK2.out; omega
   clear hgo
   generalize Num.numP s' = t at *
   obtain ⟨sn, nn⟩ := t
   dsimp only at HNU HLN
   replace HIT := hid (show numsR k ⟨l2, bk⟩ = ((numsR m sn).1, (acc ++ [(nn : Int)]) ++ (numsR m sn).2) from by rw [HIT.out]; simp)
   clear c1 f1
   go_upto_region 8 with fail
   refine wp_region_tailZ 7 [35, 37] [36] Ext (ExtQ (fun k => k = g ∨ (Value.slice AO j cO).ownBlock = some k)) (fun w' => RRd K r g w' s' ∧ OE 3 w4.heap.size w' (.slice AO j cO) acc) (by kernel_rfl) (by kernel_rfl) (by kernel_rfl) (by kernel_rfl) (by kernel_rfl) (by kernel_rfl) (by kernel_rfl) (by rfl) (by rfl) (by kernel_rfl) (by kernel_rfl) (by kernel_rfl) (fun _ _ _ x y => x.trans y) (ExtQ.refl _) (fun _ _ x => ExtQ.of x) Ext.refl (Ext.refl _).drew (fun _ _ x y => ⟨x.1.ext y, OE.ext x.2 y⟩) (⟨HQ.out.rd, HO.out⟩) ?_
   repeat (first | (refine wpZ_move0 rfl rfl (fun _ => (runsX rfl)) Ext.refl rfl rfl (fun _ => rfl) ?_; apply Exists.intro; refine ⟨?_, ?_⟩; · (go_simp; rfl)) | (refine wpZ_val rfl rfl (fun _ => (runsX rfl)) Ext.refl rfl ?_; apply Exists.intro; refine ⟨?_, ?_⟩; · (intro c a w' hR; (try (intro h1; try have e1 : _ = _ := h1)); (try (intro h2; try have e2 : _ = _ := h2)); (try (intro h3; try have e3 : _ = _ := h3)); go_simp; rfl)))
   refine wpZ_val rfl rfl (fun _ => (runsX rfl)) Ext.refl rfl ?_; apply Exists.intro; refine ⟨?_, ?_⟩
   · intro c a w' hR h1
     have e1 : _ = _ := h1
     have hl1 := (HQ.out.bq.b.extQ hR (notQ (by have h2 := HGR.out; omega) HOW.out.1)).cell 1
     go_simp
     rfl
   repeat (first | (refine wpZ_move0 rfl rfl (fun _ => (runsX rfl)) Ext.refl rfl rfl (fun _ => rfl) ?_; apply Exists.intro; refine ⟨?_, ?_⟩; · (go_simp; rfl)) | (refine wpZ_val rfl rfl (fun _ => (runsX rfl)) Ext.refl rfl ?_; apply Exists.intro; refine ⟨?_, ?_⟩; · (intro c a w' hR; (try (intro h1; try have e1 : _ = _ := h1)); (try (intro h2; try have e2 : _ = _ := h2)); (try (intro h3; try have e3 : _ = _ := h3)); go_simp; rfl)))
   refine wpZ_eff (fun c v _ => v = .int .i64 (nn : Nat)) (fun w' => RRd K r g w' sn ∧ OE 3 w4.heap.size w' (.slice AO j cO) acc) rfl (runsX rfl) rfl (keptC_eq) (fun _ _ x y => ⟨x.1.ext y, OE.ext x.2 y⟩) ?_ ?_
   · intro a w' hR hS h1 K hK
     have e1 : _ = _ := h1
     go_simp
     refine (HNU.out w' hS.1.nr).mono ?_
     rintro e w3 ⟨rfl, hr3, he3⟩
     exact hK _ _ (ExtQ.extG he3 (.inl rfl)) ⟨hS.1.num hr3, OE.extQ' hS.2 (ExtQ.extG (Q := fun k => k = g) he3 rfl) (fun i hi e => HOW.out.2.2 (by rw [hi, e]))⟩ rfl
   refine wpZ_callA (fun c v w => 1 ≤ c ∧ (c ≤ 1 → RE w v [(nn : Int)])) rfl rfl (runsX rfl) rfl (keptC_at fun _ _ _ h k => RE.ext h k) ?_ ?_
   · intro a w' hR hS h1 K hK
     have e1 : _ = _ := h1
     have q1 : a.tmps[35]?.getD undef = .int .i64 (nn : Nat) := by rw [← Array.getD_eq_getD_getElem?]; exact e1
     go_simp
     exact hK _ _ ((Ext.refl _).alloc _) ⟨Nat.le_refl _, fun _ => reI_lit _ _⟩
   refine wpZ_eff (fun c v w => 2 ≤ c ∧ (c ≤ 2 → OE 3 w4.heap.size w v (acc ++ [(nn : Int)]))) (fun w' => RRd K r g w' sn) rfl (runsX rfl) rfl (keptC_at fun _ _ _ h k => OE.ext h k) (fun _ _ x y => x.ext y) ?_ ?_
   · intro a w' hR hS h1 h2 K hK
     have e1 : _ = _ := h1
     obtain ⟨y, ey, fy⟩ : ∃ x, a.tmps.getD 36 undef = x ∧ (fun v w => 1 ≤ 0 + 1 ∧ (0 + 1 ≤ 1 → RE w v [(nn : Int)])) x w' := ⟨_, rfl, h2⟩
     refine wp_app elemI w' (.tmp 33) (.tmp 36) rfl w4.heap.size _ acc.length (eV acc) e1 hS.2.own _ 1 (eV [(nn : Int)]) ey (fy.2 (Nat.le_refl _)).rd (one_eV _) (by have := HJ.out; omega) (by have := HJ.out; unfold maxLen; omega) (by have h1 := HZ.out; have h2 := hR.size; omega) ?_
     intro v' w3 ha
     exact hK _ _ (ExtQ.grown ha.grown (fun i hi => .inr hi)) (hS.1.extQ (ExtQ.grown ha.grown (fun i hi => by have h1 := (HO.out.own.lt i hi).1; have h2 := HSZ.out.2; show r ≤ i; omega))) ⟨Nat.le_refl _, fun _ => OE.app' ha⟩
   repeat (first | (refine wpZ_move0 rfl rfl (fun _ => (runsX rfl)) Ext.refl rfl rfl (fun _ => rfl) ?_; apply Exists.intro; refine ⟨?_, ?_⟩; · (go_simp; rfl)) | (refine wpZ_val rfl rfl (fun _ => (runsX rfl)) Ext.refl rfl ?_; apply Exists.intro; refine ⟨?_, ?_⟩; · (intro c a w' hR; (try (intro h1; try have e1 : _ = _ := h1)); (try (intro h2; try have e2 : _ = _ := h2)); (try (intro h3; try have e3 : _ = _ := h3)); go_simp; rfl)))
   refine wpZ_done ?_
   intro w6 hx6 hS6
   iterate 4 (rintro _ rfl)
   rintro v36 h36
   rintro v37 h37
   rintro _ rfl
   dsimp only [FinV]
   go_simp
   have ho6 := h37.2 (Nat.le_refl _)
   obtain ⟨A6, c6, hv6⟩ := ho6.re.form
   rw [List.length_append, List.length_singleton, HJ.out] at hv6
   subst hv6
   have HO6 := hid ho6
   have HX6 := hid (show ExtQ (fun k => k = g ∨ (Value.slice AO j cO).ownBlock = some k) wr w6 from hx6)
   have HQ6 := hid (show RB2 K r q g w w6 sn (n1 : Nat) (.slice AO j cO) 0 0 0 (.slice none 0 0) from
    ⟨Bx6.extQ HQ.out.bq HX6.out (notQ (by have h2 := HGR.out; omega) HOW.out.1), Bx6.extQ HQ.out.br HX6.out (notQ (by have h2 := HGR.out; omega) HOW.out.2.1), hS6,
     HQ.out.ry.trans (HX6.out.mono fun i hi => hi.imp id fun h => by have h1 := (HO.out.own.lt i h).1; have h2 := HSZ.out.2; omega), HQ.out.er, HQ.out.lt⟩)
   have HZ6 := hid (Nat.le_trans HZ.out HX6.out.size)
   clear h36 h37 ho6 hS6 hx6
   obtain ⟨b0, b1, b2, b3, b4, b5⟩ := HQ6.out.bq.at_
   have f1 := HQ6.out.fz 1
   have HQ7 := hid (HQ6.out.set1 (.slice A6 (j + 1) c6))
   have HO7 := hid (OE.keep HO6.out (HQ6.out.setq (v := .slice A6 (j + 1) c6) 1) HSZ.out.1)
   have HZ7 := hid (show w4.heap.size ≤ (w6.setCell ⟨q, 1, none⟩ (.slice A6 (j + 1) c6)).heap.size from Nat.le_trans HZ6.out (HQ6.out.setq (v := .slice A6 (j + 1) c6) 1).size)
   obtain ⟨mm, hm⟩ : ∃ mm, mm = j + 1 := ⟨_, rfl⟩
   rw [← hm] at HQ7 HO7 HZ7 ⊢
   have HM := hid hm
   clear hm
   simp only [thenTail, List.drop_succ_cons, List.drop_zero]
   go_wp2
   exact ⟨⟨m, sn, acc ++ [(nn : Int)], by have h1 := HM.out; have h2 := HJ.out; subst h1; rw [List.length_append, List.length_singleton, h2]; go_num, by have h2 := HJ.out; have h3 := HMK.out; rw [List.length_append, List.length_singleton, h2]; omega, HIT.out, .inr HK2.out, HLN.out, _, HO7.out, HQ7.out, HZ7.out⟩, by have h1 := HM.out; have h2 := HB.out; simp [intOf]; omega⟩
  | false =>
   have HE := hid (show numsR m s' = (s', []) from by
    have h := HCC.out.symm
    cases hb : s'.bad with
    | true => exact numsR_stop hb m
    | false =>
     rw [hb] at h
     have h1 : ¬ j < k := by simpa using h
     have h2 := HMK.out
     obtain rfl : m = 0 := by omega
     rfl)
   have HS3 := hid (show s' = s3 ∧ acc = LI from by
    have h := HIT.out
    rw [HE.out, HRS.out] at h
    simp only [List.append_nil, Prod.mk.injEq] at h
    exact ⟨h.1.symm, h.2.symm⟩)
   have hs3 := HS3.out.1
   have hli := HS3.out.2
   clear HS3 HRS HIT HE HCC HMK HBD
   subst hs3
   subst hli
   clear c1 f1
   go_upto_region 9 with fail
   have HB3 := hid (HN3.out _ HQ.out.rd.nr)
   go_wp2_with fail
   refine HB3.out.mono ?_
   rintro e w5 ⟨rfl, hr5, he5⟩
   have HQ5 := hid (HQ.out.num hr5 he5)
   have HO5 := hid (OE.keep HO.out (ExtQ.extG (Q := fun k => k = g) he5 rfl) (by have h1 := HSZ.out; have h2 := HGR.out; omega))
   clear hr5 he5
   obtain ⟨b0, b1, b2, b3, b4, b5⟩ := HQ5.out.bq.at_
   have f2 := HQ5.out.fz 2
   have HQ6 := hid (HQ5.out.set2 (n3 : Nat))
   have HO6 := hid (OE.keep HO5.out (HQ5.out.setq (v := .int .i64 (n3 : Nat)) 2) HSZ.out.1)
   go_upto_region 10 with fail
   clear b0 b1 b2 b3 b4 b5 f2
   generalize w5.setCell ⟨q, 2, none⟩ (.int .i64 (n3 : Nat)) = w6 at *
   have HB4 := hid (HN4.out _ HQ6.out.rd.nr)
   go_wp2_with fail
   refine HB4.out.mono ?_
   rintro e w7 ⟨rfl, hr7, he7⟩
   have HQ7 := hid (HQ6.out.num hr7 he7)
   have HO7 := hid (OE.keep HO6.out (ExtQ.extG (Q := fun k => k = g) he7 rfl) (by have h1 := HSZ.out; have h2 := HGR.out; omega))
   clear hr7 he7
   obtain ⟨b0, b1, b2, b3, b4, b5⟩ := HQ7.out.bq.at_
   have f3 := HQ7.out.fz 3
   have HQ8 := hid (HQ7.out.set3 (n4 : Nat))
   have HO8 := hid (OE.keep HO7.out (HQ7.out.setq (v := .int .i64 (n4 : Nat)) 3) HSZ.out.1)
   go_upto_region 11 with fail
   clear b0 b1 b2 b3 b4 b5 f3
   generalize w7.setCell ⟨q, 3, none⟩ (.int .i64 (n4 : Nat)) = w8 at *
   have HB5 := hid (HN5.out _ HQ8.out.rd.nr)
   go_wp2_with fail
   refine HB5.out.mono ?_
   rintro e w9 ⟨rfl, hr9, he9⟩
   have HQ9 := hid (HQ8.out.num hr9 he9)
   have HO9 := hid (OE.keep HO8.out (ExtQ.extG (Q := fun k => k = g) he9 rfl) (by have h1 := HSZ.out; have h2 := HGR.out; omega))
   clear hr9 he9
   obtain ⟨b0, b1, b2, b3, b4, b5⟩ := HQ9.out.bq.at_
   have f4 := HQ9.out.fz 4
   have HQ10 := hid (HQ9.out.set4 (n5 : Nat))
   have HO10 := hid (OE.keep HO9.out (HQ9.out.setq (v := .int .i64 (n5 : Nat)) 4) HSZ.out.1)
   go_upto_region 12 with fail
   clear b0 b1 b2 b3 b4 b5 f4
   generalize w9.setCell ⟨q, 4, none⟩ (.int .i64 (n5 : Nat)) = w10 at *
   have HB6 := hid (HN6.out _ HQ10.out.rd.nr)
   go_wp2_with fail
   refine HB6.out.mono ?_
   rintro e w11 ⟨rfl, hr11, he11⟩
   have HQ11 := hid (HQ10.out.num hr11 he11)
   have HO11 := hid (OE.keep HO10.out (ExtQ.extG (Q := fun k => k = g) he11 rfl) (by have h1 := HSZ.out; have h2 := HGR.out; omega))
   clear hr11 he11
   obtain ⟨dp, hdp⟩ : ∃ dp, decide (0 < d) = dp := ⟨_, rfl⟩
   rw [hdp]
   have HDP := hid hdp
   clear hdp
   obtain ⟨b9, hb9⟩ : ∃ b9, b9 = (b7 || decide (mostP d < (nb : Int))) := ⟨_, rfl⟩
   rw [← hb9] at HW
   have HB9 := hid hb9
   clear hb9
   have HMP := hid (show mostP d = if 0 < d then 32 else 0 from by cases d with | zero => rfl | succ d => rw [if_pos (by omega)]; rfl)
   obtain ⟨c1, f1⟩ := HQ11.out.rd.at_
   have HT9 := hid (show b9 = (b7 || decide (mostP d < (nb : Int))) from HB9.out)
   generalize ht9 : decide (mostP d < (nb : Int)) = t9 at HT9
   have HTT := hid ht9
   clear ht9
   go_upto_region 13 with fail
   go_cut [61] (fun s61 wx => s61 = .bool t9 ∧ wx = w11)
   case first =>
    by_cases h32 : (nb : Int) > 32
    · have HY := hid (show t9 = true from by rw [← HTT.out, HMP.out]; exact decide_eq_true (by split <;> omega))
      go_wp2
      go_meet
      exact ⟨by rw [HY.out], rfl⟩
    · by_cases h0 : (nb : Int) > 0
      · cases dp with
        | true =>
         have HY := hid (show t9 = false from by rw [← HTT.out, HMP.out, if_pos (of_decide_eq_true HDP.out)]; exact decide_eq_false h32)
         go_wp2
         go_meet
         exact ⟨by rw [HY.out], rfl⟩
        | false =>
         have HY := hid (show t9 = true from by rw [← HTT.out, HMP.out, if_neg (of_decide_eq_false HDP.out)]; exact decide_eq_true h0)
         go_wp2
         go_meet
         exact ⟨by rw [HY.out], rfl⟩
      · have HY := hid (show t9 = false from by rw [← HTT.out, HMP.out]; exact decide_eq_false (by split; exact h32; exact h0))
        go_wp2
        go_meet
        exact ⟨by rw [HY.out], rfl⟩
   case rest =>
   obtain ⟨rfl, hwx⟩ := hcut
   subst hwx
   rename World => w11
   go_upto_if 61 with fail
   go_cut [] (fun wx => RB2 K r q g w wx ⟨l7, b9⟩ (n1 : Nat) (.slice AO j cO) (n3 : Nat) (n4 : Nat) (n5 : Nat) (.slice none 0 0) ∧ OE 3 w4.heap.size wx (.slice AO j cO) acc)
   case first =>
    cases t9 with
    | true =>
     have HY := hid (show RB2 K r q g w (w11.setCell ⟨g, 1, none⟩ (.bool true)) ⟨l7, b9⟩ (n1 : Nat) (.slice AO j cO) (n3 : Nat) (n4 : Nat) (n5 : Nat) (.slice none 0 0) ∧ OE 3 w4.heap.size (w11.setCell ⟨g, 1, none⟩ (.bool true)) (.slice AO j cO) acc from by
      have h1 := HQ11.out.mark
      rw [show b9 = true from by rw [HT9.out, Bool.or_true]]
      exact ⟨h1, OE.keep HO11.out (ExtQ.setCell (Q := fun k => k = g) (ExtQ.refl _ _) (p := ⟨g, 1, none⟩) rfl _) (by have h1 := HSZ.out; have h2 := HGR.out; omega)⟩)
     go_wp2
     go_meet
     exact HY.out
    | false =>
     have HY := hid (show RB2 K r q g w w11 ⟨l7, b9⟩ (n1 : Nat) (.slice AO j cO) (n3 : Nat) (n4 : Nat) (n5 : Nat) (.slice none 0 0) ∧ OE 3 w4.heap.size w11 (.slice AO j cO) acc from by
      rw [show b9 = b7 from by rw [HT9.out, Bool.or_false]]
      exact ⟨HQ11.out, HO11.out⟩)
     go_wp2
     go_meet
     exact HY.out
   case rest =>
   have HQ12 := hid hcut.1
   have HO12 := hid hcut.2
   clear hcut c1 f1
   rename World => w12
   clear HQ5 HQ6 HQ7 HQ8 HQ9 HQ10 HQ11 HO5 HO6 HO7 HO8 HO9 HO10 HO11 HB3 HB4 HB5 HB6 HT9 HTT
   have HBL := hid (show b9 = true ∨ (nb : Int) ≤ mostP d by by_cases q : (nb : Int) ≤ mostP d; exact .inr q; exact .inl (by rw [HB9.out, decide_eq_true (by omega), Bool.or_true]))
   have HSZ2 := hid (show q < w12.heap.size ∧ r < w12.heap.size from ⟨HQ12.out.bq.b.lt, HQ12.out.br.b.lt⟩)
   have HOB := hid (fun k (hk : (Value.slice AO j cO).ownBlock = some k) => HO12.out.own.lt k hk)
   clear HOW HB9 HZ HO HQ
   go_wp2
   go_loopw [9] (fun iv wr => ∃ (i m : Nat) (s' : Num.St) (l : List Nd), iv = .int .i64 (i : Int) ∧ l.length = i ∧ i + m = nb ∧ itrR (nodeR (d - 1)) nb ⟨l7, b9⟩ = ((itrR (nodeR (d - 1)) m s').1, l ++ (itrR (nodeR (d - 1)) m s').2) ∧ (s'.bad = true ∨ (nb : Int) ≤ mostP d) ∧ s'.l.length ≤ 1000000 ∧ (0 < d ∨ l = []) ∧
    ∃ sl, OS (fun k => k ≤ q) 112 6 w12.heap.size (NdQ (NodesR (d - 1))) wr sl l ∧ RB2 K r q g w wr s' (n1 : Nat) (.slice AO j cO) (n3 : Nat) (n4 : Nat) (n5 : Nat) sl ∧ OE 3 w4.heap.size wr (.slice AO j cO) acc ∧ w12.heap.size ≤ wr.heap.size) (fun iv _ => nb - (intOf iv).toNat)
   case atStart => exact ⟨0, nb, ⟨l7, b9⟩, [], rfl, rfl, by simp, by simp, HBL.out, HL2.out.2, .inr rfl, _, OS.nil _ _ _ _ _ _, HQ12.out, HO12.out, Nat.le_refl _⟩
   case round =>
    obtain ⟨i, m, s', l, rfl, hil, him, hit, hbk, hll, hd0, sl, hos, hq, ho, hz⟩ := hrel
    have HIM := hid him
    have HIT := hid hit
    have HBD := hid hbk
    have HLL := hid hll
    have HD0 := hid hd0
    have HOS := hid hos
    have HO := hid ho
    have HQ := hid hq
    have HZ := hid hz
    have HIL := hid hil
    obtain ⟨AB, cB, hvo⟩ := hos.form
    rw [hil] at hvo
    obtain ⟨c1, f1⟩ := hq.rd.at_
    obtain ⟨cc, hcc⟩ : ∃ cc, cc = (decide (i < nb) && !s'.bad) := ⟨_, rfl⟩
    have HCC := hid hcc
    clear him hit hbk hll hos ho hq hz hcc hil hd0
    go_upto_region 16 with fail
    go_cut [74] (fun s74 wx => s74 = .bool cc ∧ wx = wr)
    case first =>
     by_cases hk : i < nb
     · have q1 : (i : Int) < (nb : Int) := by omega
       have HK := hid hk
       clear hk hvo
       cases hb : s'.bad with
       | true =>
        rw [hb] at c1
        have HB := hid hb
        clear hb
        go_wp2
        go_meet
        exact ⟨by rw [HCC.out, HB.out, Bool.not_true, Bool.and_false], rfl⟩
       | false =>
        rw [hb] at c1
        have HB := hid hb
        clear hb
        go_wp2
        go_meet
        exact ⟨by rw [HCC.out, HB.out, decide_eq_true HK.out]; rfl, rfl⟩
     · have q1 : ¬ (i : Int) < (nb : Int) := by omega
       have HK := hid hk
       clear hk hvo
       go_wp2
       go_meet
       exact ⟨by rw [HCC.out, decide_eq_false HK.out]; rfl, rfl⟩
    case rest =>
    obtain ⟨rfl, hwx⟩ := hcut
    subst hwx
    rename World => wr
    subst hvo
    have HOW := hid (show (Value.slice AB i cB).ownBlock ≠ some q ∧ (Value.slice AB i cB).ownBlock ≠ some r ∧ (Value.slice AB i cB).ownBlock ≠ some g ∧ ∀ k, (Value.slice AB i cB).ownBlock = some k → (Value.slice AO j cO).ownBlock ≠ some k from by
     have h1 := HSZ2.out
     have h2 := HGR.out
     exact ⟨fun e => by have := (HOS.out.lt e).1; omega, fun e => by have := (HOS.out.lt e).1; omega, fun e => by have := (HOS.out.lt e).1; omega, fun k e e2 => by have h3 := (HOS.out.lt e).1; have h4 := (HOB.out k e2).2; omega⟩)
    have HOG := hid (show (Value.slice AO j cO).ownBlock ≠ some g ∧ (Value.slice AO j cO).ownBlock ≠ some q ∧ (Value.slice AO j cO).ownBlock ≠ some r from by
     have h1 := HSZ.out
     have h2 := HGR.out
     exact ⟨fun e => by have := (HOB.out _ e).1; omega, fun e => by have := (HOB.out _ e).1; omega, fun e => by have := (HOB.out _ e).1; omega⟩)
    cases cc with
    | true =>
     have HB := hid (show i < nb ∧ s'.bad = false from by have := HCC.out.symm; simpa using this)
     have HK2 := hid (show (nb : Int) ≤ mostP d from HBD.out.elim (fun h => by rw [HB.out.2] at h; cases h) id)
     have HD := hid (show 0 < d ∧ nb ≤ 32 from by
      have h1 := HMP.out
      have h2 := HK2.out
      have h3 := HB.out.1
      split at h1 <;> constructor <;> omega)
     obtain ⟨m, rfl⟩ : ∃ m', m = m' + 1 := ⟨m - 1, by have h1 := HIM.out; have h2 := HB.out.1; omega⟩
     have hgo := itrR_go (f := nodeR (d - 1)) HB.out.2 m
     rw [hgo] at HIT
     have HNU := hid (fun w (h : RRd K r g w s') (hw : r ≤ w.heap.size) => HNO.out HD.out.1 K r g s' w h hw HLL.out)
     rw [show decide (0 < d - 1) = false from decide_eq_false (by omega)] at HNU
     have HLN := hid (Nat.le_trans (HFL.out s') HLL.out)
     have hi32 : i ≤ 32 := by have h1 := HB.out.1; have h2 := HD.out.2; omega
     have HST0 := hid (fun (v' : Value) (w' : World) => trivial)
     clear hgo HST0
     generalize hnr : nodeR (d - 1) s' = t at HNU HLN HIT
     clear hnr
     obtain ⟨sn, nd⟩ := t
     obtain ⟨xop, xins, xkind, xfa, xa, xbody⟩ := nd
     simp only [Nd.op, Nd.kind, Nd.fa, Nd.a, Nd.ins, Nd.body] at HNU
     dsimp only at HLN
     replace HIT := hid (show itrR (nodeR (d - 1)) nb ⟨l7, b9⟩ = ((itrR (nodeR (d - 1)) m sn).1, (l ++ [Nd.mk xop xins xkind xfa xa xbody]) ++ (itrR (nodeR (d - 1)) m sn).2) from by rw [HIT.out]; simp)
     have HMK := hid (fun (w' : World) (hw : wr.heap.size ≤ w'.heap.size) (W : World) (hW : ExtQ (MayK (fun k => k ≤ q) (.slice AB i cB) w') w' W) => show ExtQ (fun k => k < wr.heap.size) w' W from
      hW.mono' fun x hx hq => by
       rcases hq with hq | hq | hq
       · have h1 := HSZ2.out; have h2 := HZ.out; have hq : x ≤ q := hq; show x < wr.heap.size; omega
       · exact (HOS.out.lt hq).2
       · omega)
     clear c1 f1
     go_upto_region 18 with fail
     refine wp_region_tailZ 7 [80, 82] [81] Ext (ExtQ (fun k => k = g ∨ (Value.slice AB i cB).ownBlock = some k)) (fun w' => RRd K r g w' s' ∧ OS (fun k => k ≤ q) 112 6 w12.heap.size (NdQ (NodesR (d - 1))) w' (.slice AB i cB) l) (by kernel_rfl) (by kernel_rfl) (by kernel_rfl) (by kernel_rfl) (by kernel_rfl) (by kernel_rfl) (by kernel_rfl) (by rfl) (by rfl) (by kernel_rfl) (by kernel_rfl) (by kernel_rfl) (fun _ _ _ x y => x.trans y) (ExtQ.refl _) (fun _ _ x => ExtQ.of x) Ext.refl (Ext.refl _).drew (fun _ _ x y => ⟨x.1.ext y, x.2.ext y⟩) (⟨HQ.out.rd, HOS.out⟩) ?_
     repeat (first | (refine wpZ_move0 rfl rfl (fun _ => (runsX rfl)) Ext.refl rfl rfl (fun _ => rfl) ?_; apply Exists.intro; refine ⟨?_, ?_⟩; · (go_simp; rfl)) | (refine wpZ_val rfl rfl (fun _ => (runsX rfl)) Ext.refl rfl ?_; apply Exists.intro; refine ⟨?_, ?_⟩; · (intro c a w' hR; (try (intro h1; try have e1 : _ = _ := h1)); (try (intro h2; try have e2 : _ = _ := h2)); (try (intro h3; try have e3 : _ = _ := h3)); go_simp; rfl)))
     refine wpZ_val rfl rfl (fun _ => (runsX rfl)) Ext.refl rfl ?_; apply Exists.intro; refine ⟨?_, ?_⟩
     · intro c a w' hR h1
       have e1 : _ = _ := h1
       have hl1 := (HQ.out.bq.b.extQ hR (notQ (by have h2 := HGR.out; omega) HOW.out.1)).cell 5
       go_simp
       rfl
     repeat (first | (refine wpZ_move0 rfl rfl (fun _ => (runsX rfl)) Ext.refl rfl rfl (fun _ => rfl) ?_; apply Exists.intro; refine ⟨?_, ?_⟩; · (go_simp; rfl)) | (refine wpZ_val rfl rfl (fun _ => (runsX rfl)) Ext.refl rfl ?_; apply Exists.intro; refine ⟨?_, ?_⟩; · (intro c a w' hR; (try (intro h1; try have e1 : _ = _ := h1)); (try (intro h2; try have e2 : _ = _ := h2)); (try (intro h3; try have e3 : _ = _ := h3)); go_simp; rfl)))
     refine wpZ_eff (fun c v w9 => 1 ≤ c ∧ (c ≤ 1 → FNd (d - 1) wr.heap.size xop xkind xfa xa xins xbody v w9)) (fun w' => RRd K r g w' sn ∧ OS (fun k => k ≤ q) 112 6 w12.heap.size (NdQ (NodesR (d - 1))) w' (.slice AB i cB) l) rfl (runsX rfl) rfl (keptC_at fun v w w2 h k => FNd.ext h k) (fun _ _ x y => ⟨x.1.ext y, x.2.ext y⟩) ?_ ?_
     · intro a w' hR hS h1 K hK
       have e1 : _ = _ := h1
       go_simp
       refine (HNU.out w' hS.1 (by have h1 := HSZ2.out; have h2 := HZ.out; have h3 := hR.size; omega)).mono ?_
       rintro e w3 ⟨u3, b3, rfl, hst, hr3, he3⟩
       obtain ⟨A3, c3, rfl⟩ := (hst w3 (ExtQ.refl _ _)).1.form
       obtain ⟨B3, d3, rfl⟩ := (hst w3 (ExtQ.refl _ _)).2.form
       exact hK _ _ (he3.mono fun x hx => .inl hx) ⟨hr3, hS.2.extQ he3 (fun x hx => .inl (by have h2 := HGR.out; show x ≤ q; omega)) (fun x hx hq => by have h1 := (HOS.out.lt hx).1; have h2 := HSZ2.out; have hq : x ≤ q := hq; omega)⟩ ⟨Nat.le_refl _, fun _ => ⟨A3, c3, B3, d3, rfl, fun W hW => hst W (hW.mono fun x hx => by have h3 := hR.size; show x < w'.heap.size; omega)⟩⟩
     refine wpZ_callA (fun c v w => 1 ≤ c ∧ (c ≤ 1 → FNl (d - 1) wr.heap.size xop xkind xfa xa xins xbody v w)) rfl rfl (runsX rfl) rfl (keptC_at fun v w w2 h k => FNl.ext h k) ?_ ?_
     · intro a w' hR hS h1 K hK
       obtain ⟨x, ex, fx⟩ : ∃ x, a.tmps.getD 80 undef = x ∧ (fun v w => 1 ≤ 0 + 1 ∧ (0 + 1 ≤ 1 → FNd (d - 1) wr.heap.size xop xkind xfa xa xins xbody v w)) x w' := ⟨_, rfl, h1⟩
       obtain ⟨A9, c9, B9, e9, hx9, hst9⟩ := (fx.2 (Nat.le_refl _)).ex
       subst hx9
       have q9 : a.tmps[80]?.getD undef = ndAg xop xkind xfa xa (.slice A9 xins.length c9) (.slice B9 xbody.length e9) := by simpa using ex
       go_simp
       exact hK _ _ ((Ext.refl _).alloc _) ⟨Nat.le_refl _, fun _ => ⟨A9, c9, B9, e9, nd_lit2 w' _ xop xkind xfa xa A9 xins.length c9 B9 xbody.length e9, fun W hW => hst9 W ((ExtQ.of ((Ext.refl _).alloc _)).trans hW)⟩⟩
     refine wpZ_eff (fun c v w => 2 ≤ c ∧ (c ≤ 2 → OS (fun k => k ≤ q) 112 6 w12.heap.size (NdQ (NodesR (d - 1))) w v (l ++ [.mk xop xins xkind xfa xa xbody]))) (fun w' => RRd K r g w' sn) rfl (runsX rfl) rfl (keptC_at fun v w w2 h k => OS.ext (w := w) (w' := w2) (v := v) h k) (fun _ _ x y => x.ext y) ?_ ?_
     · intro a w' hR hS h1 h2 K hK
       have e1 : _ = _ := h1
       obtain ⟨y, ey, fy⟩ : ∃ x, a.tmps.getD 81 undef = x ∧ (fun v w => 1 ≤ 0 + 1 ∧ (0 + 1 ≤ 1 → FNl (d - 1) wr.heap.size xop xkind xfa xa xins xbody v w)) x w' := ⟨_, rfl, h2⟩
       obtain ⟨A9, c9, B9, e9, hrd, hst9⟩ := (fy.2 (Nat.le_refl _)).ex
       refine wp_appS elemNd w' (.tmp 78) (.tmp 81) rfl w12.heap.size _ _ l e1 hS.2 ey _ (.mk xop xins xkind xfa xa xbody) hrd (nd_one2 _ _ _ _ _ _ _ _ _ _) rfl (fun W hW => ⟨_, _, rfl, (hst9 W (HMK.out w' hR.size W hW)).1, (hst9 W (HMK.out w' hR.size W hW)).2⟩) (by have := HIL.out; omega) (by have := HIL.out; unfold maxLen; omega) (Nat.le_trans HZ.out hR.size) ?_
       intro v' w3 hos3 hg3
       exact hK _ _ (ExtQ.grown hg3 (fun x hx => .inr hx)) (hS.1.extQ (ExtQ.grown hg3 (fun x hx => by have h1 := (HOS.out.lt hx).1; have h2 := HSZ2.out; show r ≤ x; omega))) ⟨Nat.le_refl _, fun _ => hos3⟩
     repeat (first | (refine wpZ_move0 rfl rfl (fun _ => (runsX rfl)) Ext.refl rfl rfl (fun _ => rfl) ?_; apply Exists.intro; refine ⟨?_, ?_⟩; · (go_simp; rfl)) | (refine wpZ_val rfl rfl (fun _ => (runsX rfl)) Ext.refl rfl ?_; apply Exists.intro; refine ⟨?_, ?_⟩; · (intro c a w' hR; (try (intro h1; try have e1 : _ = _ := h1)); (try (intro h2; try have e2 : _ = _ := h2)); (try (intro h3; try have e3 : _ = _ := h3)); go_simp; rfl)))
     refine wpZ_done ?_
     intro w6 hx6 hS6
     iterate 3 (rintro _ rfl)
     rintro v80 h80
     rintro v81 h81
     rintro v82 h82
     rintro _ rfl
     dsimp only [FinV]
     go_simp
     have ho6 := h82.2 (Nat.le_refl _)
     obtain ⟨A6, c6, hv6⟩ := ho6.form
     rw [List.length_append, List.length_singleton, HIL.out] at hv6
     subst hv6
     have HO6 := hid ho6
     have HX6 := hid (show ExtQ (fun k => k = g ∨ (Value.slice AB i cB).ownBlock = some k) wr w6 from hx6)
     have HQ6 := hid (show RB2 K r q g w w6 sn (n1 : Nat) (.slice AO j cO) (n3 : Nat) (n4 : Nat) (n5 : Nat) (.slice AB i cB) from
      ⟨Bx6.extQ HQ.out.bq HX6.out (notQ (by have h2 := HGR.out; omega) HOW.out.1), Bx6.extQ HQ.out.br HX6.out (notQ (by have h2 := HGR.out; omega) HOW.out.2.1), hS6,
       HQ.out.ry.trans (HX6.out.mono fun x hx => hx.imp id fun h => by have h1 := (HOS.out.lt h).1; have h2 := HSZ2.out; omega), HQ.out.er, HQ.out.lt⟩)
     have HI6 := hid (OE.extQ' HO.out HX6.out (fun x hx hq => hq.elim (fun e => HOG.out.1 (by rw [hx, e])) fun e => HOW.out.2.2.2 x e hx))
     have HZ6 := hid (Nat.le_trans HZ.out HX6.out.size)
     clear h80 h81 h82 ho6 hS6 hx6
     obtain ⟨b0, b1, b2, b3, b4, b5⟩ := HQ6.out.bq.at_
     have f5 := HQ6.out.fz 5
     have HQ7 := hid (HQ6.out.set5 (.slice A6 (i + 1) c6))
     have hst := HQ6.out.setq (v := .slice A6 (i + 1) c6) 5
     have HO7 := hid (HO6.out.extQ hst (fun x (hx : x = q) => .inl (by show x ≤ q; omega)) (fun x hx hq => by have h1 := (HO6.out.lt hx).1; have h2 := HSZ2.out; have hq : x ≤ q := hq; omega))
     have HI7 := hid (OE.keep HI6.out hst HSZ.out.1)
     have HZ7 := hid (show w12.heap.size ≤ (w6.setCell ⟨q, 5, none⟩ (.slice A6 (i + 1) c6)).heap.size from Nat.le_trans HZ6.out hst.size)
     clear hst
     obtain ⟨mm, hm⟩ : ∃ mm, mm = i + 1 := ⟨_, rfl⟩
     rw [← hm] at HQ7 HO7 HI7 HZ7 ⊢
     have HM := hid hm
     clear hm
     simp only [thenTail, List.drop_succ_cons, List.drop_zero]
     go_wp2
     exact ⟨⟨mm, m, sn, l ++ [.mk xop xins xkind xfa xa xbody], by have h1 := HM.out; subst h1; go_num, by rw [List.length_append, List.length_singleton, HIL.out, HM.out], by have h2 := HM.out; have h3 := HIM.out; omega, HIT.out, .inr HK2.out, HLN.out, .inl HD.out.1, _, HO7.out, HQ7.out, HI7.out, HZ7.out⟩, by have h1 := HM.out; have h2 := HB.out; simp [intOf]; omega⟩
    | false =>
     have HE := hid (show itrR (nodeR (d - 1)) nb ⟨l7, b9⟩ = (s', l) from by
      have h := HCC.out.symm
      rw [HIT.out]
      cases hb : s'.bad with
      | true => rw [itrR_stop hb m]; simp
      | false =>
       rw [hb] at h
       have h1 : ¬ i < nb := by simpa using h
       have h2 := HIM.out
       obtain rfl : m = 0 := by omega
       simp [itrR])
     rw [HE.out] at HW
     obtain rfl := HW.out
     clear HW HE HIT HCC HIM HBD c1 f1
     obtain ⟨b0, b1, b2, b3, b4, b5⟩ := HQ.out.bq.at_
     have j0 : wr.frozen? ⟨r, 0, none⟩ = false := HQ.out.br.b.frozen 0
     have j1 : wr.frozen? ⟨r, 1, none⟩ = false := HQ.out.br.b.frozen 1
     have j2 : wr.frozen? ⟨r, 2, none⟩ = false := HQ.out.br.b.frozen 2
     have j3 : wr.frozen? ⟨r, 3, none⟩ = false := HQ.out.br.b.frozen 3
     have j4 : wr.frozen? ⟨r, 4, none⟩ = false := HQ.out.br.b.frozen 4
     have j5 : wr.frozen? ⟨r, 5, none⟩ = false := HQ.out.br.b.frozen 5
     obtain ⟨d0, d1, d2, d3, d4, d5⟩ := HQ.out.br.at_
     have HF := hid (HQ.out.br.fill (.int .i64 (n1 : Nat)) (.slice AO j cO) (.int .i64 (n3 : Nat)) (.int .i64 (n4 : Nat)) (.int .i64 (n5 : Nat)) (.slice AB i cB))
     have HXQ := hid (extQ6 (ExtQ.refl (fun k => k = r) wr) (q := r) rfl (.int .i64 (n1 : Nat)) (.slice AO j cO) (.int .i64 (n3 : Nat)) (.int .i64 (n4 : Nat)) (.int .i64 (n5 : Nat)) (.slice AB i cB))
     go_wp2
     generalize (((((wr.setCell ⟨r, 0, none⟩ (.int .i64 (n1 : Nat))).setCell ⟨r, 1, none⟩ (.slice AO j cO)).setCell ⟨r, 2, none⟩ (.int .i64 (n3 : Nat))).setCell ⟨r, 3, none⟩ (.int .i64 (n4 : Nat))).setCell ⟨r, 4, none⟩ (.int .i64 (n5 : Nat))).setCell ⟨r, 5, none⟩ (.slice AB i cB) = wz at *
     have HIZ := hid (OE.keep HO.out HXQ.out HSZ.out.2)
     have HOZ := hid (HOS.out.extQ HXQ.out (fun x (hx : x = r) => .inl (by have h2 := HGR.out; show x ≤ q; omega)) (fun x hx hq => by have h1 := (HOS.out.lt hx).1; have h2 := HSZ2.out; have hq : x ≤ q := hq; omega))
     have HST := hid (fun (W : World) (hW : ExtQ (fun k => k < w.heap.size) wz W) => (⟨(OE.extQ' HIZ.out hW (fun x hx hq => by have h1 := (HIZ.out.own.lt x hx).1; have h2 := HSZ.out; have h3 := HR.out; omega)).re,
      NodesR.of_os (HOZ.out.extQ hW (fun x hx => .inl (by have h3 := HR.out; have h2 := HGR.out; show x ≤ q; omega)) (fun x hx hq => by have h1 := (HOZ.out.lt hx).1; have h2 := HSZ2.out; have hq : x ≤ q := hq; omega)) HD0.out⟩ : RE W (.slice AO j cO) acc ∧ NodesR d W (.slice AB i cB) l))
     have HGZ := hid ((HQ.out.rd.extQ (HXQ.out.mono fun x (hx : x = r) => by show r ≤ x; omega)).down H0.out)
     have HXZ := hid (show ExtQ (fun k => k = g) w wz from (HQ.out.ry.trans (HXQ.out.mono fun x (hx : x = r) => .inr (by omega))).mono' fun x hx hq => hq.elim id fun h => by have h3 := HR.out; omega)
     obtain ⟨y0, y1, y2, y3, y4, y5⟩ := HF.out.at_
     exact bodyPost_ret (v := ndAg (n1 : Nat) (n3 : Nat) (n4 : Nat) (n5 : Nat) (.slice AO j cO) (.slice AB i cB)) (by simp [results, Tryz.results111, go_sem, y0, y1, y2, y3, y4, y5]) rfl
      ⟨_, _, rfl, HST.out, HGZ.out, HXZ.out⟩
theorem rnode_any : ∀ (d : Nat), d ≤ 1 → RnC d
 | 0, h => rnode_of 0 h fun q => absurd q (Nat.lt_irrefl _)
 | d + 1, h => rnode_of (d + 1) h fun _ => rnode_any d (by omega)
end Go.Proofs.YtpmpjjhchkoboaaGreatDoor
