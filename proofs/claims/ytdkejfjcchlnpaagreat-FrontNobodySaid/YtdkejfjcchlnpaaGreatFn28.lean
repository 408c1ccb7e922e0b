/-
  GrGet, packed: what the claim needs of them.
-/
import Derived.Test.YtdkejfjcchlnpaaGreatFn27
set_option maxHeartbeats 40000000
open Go.Lib (hid)
set_option linter.unusedSimpArgs false
set_option linter.unusedVariables false
set_option maxRecDepth 100000
namespace Go.Proofs.YtdkejfjcchlnpaaGreat
open Go.RowKit Go.Ox Go.Ox.Gr
structure GRd (K : Nat → Prop) (B p g : Nat) (w : World) (S : PS) : Prop where
 blk : Blk w p 156 #[.pointer (some ⟨g, 0, none⟩), .bool S.gb]
 nr : NR K w g S.s
 ne : p ≠ g
 kp : ¬ K p
 lp : p < B
 lg : g < B
 lk : ∀ b, K b → b < B
section
variable {K : Nat → Prop} {B B' p g : Nat} {w w' : World} {S : PS} {s1 : Num.St}
theorem GRd.a0Q (h : GRd K B p g w S) (he : ExtQ (fun k => B ≤ k) w w') : GRd K B p g w' S :=
 ⟨h.blk.a0Q he (by have := h.lp; omega), h.nr.kept fun k hk hor => he.block k hk (fun q => by
  have q : B ≤ k := q
  rcases hor with hor | hor
  · have := h.lk k hor; omega
  · have := h.lg; omega), h.ne, h.kp, h.lp, h.lg, h.lk⟩
theorem GRd.ext (h : GRd K B p g w S) (he : Ext w w') : GRd K B p g w' S := h.a0Q (ExtQ.of he)
theorem GRd.up (h : GRd K B p g w S) (hb : B ≤ B') : GRd K B' p g w S :=
 ⟨h.blk, h.nr, h.ne, h.kp, Nat.lt_of_lt_of_le h.lp hb, Nat.lt_of_lt_of_le h.lg hb, fun b hk => Nat.lt_of_lt_of_le (h.lk b hk) hb⟩
theorem GRd.num (h : GRd K B p g w S) (hr : NR K w' g s1) (he : ExtG g w w') : GRd K B p g w' ⟨s1, S.gb⟩ :=
 ⟨h.blk.a5Y he h.ne, hr, h.ne, h.kp, h.lp, h.lg, h.lk⟩
theorem GRd.mark (h : GRd K B p g w S) : GRd K B p g (w.setCell ⟨p, 1, none⟩ (.bool true)) ⟨S.s, true⟩ :=
 ⟨by simpa using h.blk.a0U 1 (.bool true), h.nr.kept fun k hk hor => (Below.heap_setCell w ⟨p, 1, none⟩ (.bool true) k (fun q => by
  have q : k = p := q;subst q
  rcases hor with hor | hor
  · exact h.kp hor
  · exact h.ne hor)), h.ne, h.kp, h.lp, h.lg, h.lk⟩
theorem GRd.at_ (h : GRd K B p g w S) : w.cell? ⟨p, 0, none⟩ = some (.pointer (some ⟨g, 0, none⟩)) ∧ w.cell? ⟨p, 1, none⟩ = some (.bool S.gb) ∧ w.frozen? ⟨p, 1, none⟩ = false :=
 ⟨h.blk.cell 0, h.blk.cell 1, h.blk.frozen 1⟩
theorem GRd.size (h : GRd K B p g w S) : p < w.heap.size ∧ g < w.heap.size := ⟨h.blk.lt, h.nr.lt⟩
end
abbrev RX (p g : Nat) (w w' : World) : Prop := ExtQ (fun k => k = p ∨ k = g) w w'
theorem RX.num {p g : Nat} {w w' : World} (h : ExtG g w w') : RX p g w w' := ExtQ.a5Y h (.inr rfl)
theorem a3j (K : Nat → Prop) (B p g : Nat) (most : Int) (S : PS) (w : World) (h : GRd K B p g w S) (hl : S.s.l.length ≤ 1000000) :
 Calls Tryz.prog 119 #[.pointer (some ⟨p, 0, none⟩), .int .i64 most] w fun e w' => e = .returned (.int .i64 ((a27 most S).2 : Nat)) ∧ GRd K B p g w' (a27 most S).1 ∧ RX p g w w' := by
 have HH := hid h;have HN := hid (a2A g S.s w h.nr hl);have HP := hid (show a27 most S = if most < ((Num.a0l S.s).2 : Int) ∨ (Num.a0l S.s).1.bad = true then (⟨(Num.a0l S.s).1, true⟩, 0) else (⟨(Num.a0l S.s).1, S.gb⟩, (Num.a0l S.s).2) from rfl)
 obtain ⟨c0, c1, f1⟩ := h.at_;generalize Num.a0l S.s = t at *;obtain ⟨s1, n⟩ := t;dsimp only at *;generalize a27 most S = R at *;clear h hl
 go_enter Tryz.func119, Tryz.ntmps119
 go_wp2_with fail
 refine HN.o.mono ?_;rintro e w1 ⟨rfl, hr1, he1⟩;have H1 := hid (HH.o.num hr1 he1);have HX1 := hid (RX.num (p := p) he1);clear hr1 he1 c0 c1 f1;obtain ⟨c0, c1, f1⟩ := H1.o.at_
 by_cases hm : most < (n : Int)
 · have hb : decide ((n : Int) > most) = true := by simpa using hm
   rw [if_pos (.inl hm)] at HP;have HM := hid H1.o.mark;have HXM := hid (ExtQ.setCell (Q := fun k => k = p ∨ k = g) HX1.o (p := ⟨p, 1, none⟩) (.inl rfl) (.bool true))
   obtain rfl := HP.o;clear hm
   go_wp2
   go_ret
   exact ⟨rfl, HM.o, HXM.o⟩
 have hb : decide ((n : Int) > most) = false := by simpa using hm
 have HB := hid (a2g g s1 w1 H1.o.nr)
 cases hbd : s1.bad with
 | true =>
  rw [if_pos (.inr hbd)] at HP;rw [hbd] at HB;have HM := hid H1.o.mark;have HXM := hid (ExtQ.setCell (Q := fun k => k = p ∨ k = g) HX1.o (p := ⟨p, 1, none⟩) (.inl rfl) (.bool true))
  obtain rfl := HP.o;clear hm hbd
  go_wp2_with fail
  refine HB.o.mono ?_;rintro e w2 ⟨rfl, rfl⟩
  go_wp2
  go_ret
  exact ⟨rfl, HM.o, HXM.o⟩
 | false =>
 rw [if_neg (by rw [hbd]; simp; omega)] at HP
 rw [hbd] at HB;obtain rfl := HP.o;clear hm hbd
 go_wp2_with fail
 refine HB.o.mono ?_;rintro e w2 ⟨rfl, rfl⟩
 go_wp2
 go_ret
 exact ⟨rfl, H1.o, HX1.o⟩
end Go.Proofs.YtdkejfjcchlnpaaGreat
namespace Go.Proofs.YtdkejfjcchlnpaaGreat
open Go.RowKit Go.Ox Go.Ox.Gr
theorem b3S (w : World) (n : Int) : RE (w.alloc (.cells #[.int .i64 n] 3)) (.slice (some ⟨w.heap.size, 0, none⟩) 1 1) [n] := RE.lit w #[.int .i64 n] 3 1 [n] rfl (by omega) rfl
theorem OE.a5Q {Q : Nat → Prop} {E B : Nat} {w w' : World} {v : Value} {l : List Int} (h : OE E B w v l) (he : ExtQ Q w w') (hq : ∀ k, v.ownBlock = some k → ¬ Q k) : OE E B w' v l := OE.mk (a0a h.own he hq)
theorem OE.app' {E B : Nat} {w w' : World} {v v' : Value} {l r : List Int} (ha : Appended w w' B E 1 v v' l.length r.length (eV l) (eV r)) : OE E B w' v' (l ++ r) := OE.app ha.own
attribute [local irreducible] RE OE a00
def a7W (D : Nat) : Prop := ∀ (K : Nat → Prop) (B p g : Nat) (S : PS) (w : World) (x : Int), x = (D : Int) - 1 → GRd K B p g w S → B ≤ w.heap.size → S.s.l.length ≤ 1000000 →
 Calls Tryz.prog 93 #[.pointer (some ⟨p, 0, none⟩), .int .i64 x] w fun e w' => ∃ v, e = .returned v ∧ (∀ W, ExtQ (fun k => k < w.heap.size) w' W → a00 D W v (a0b D S).2) ∧ GRd K B p g w' (a0b D S).1 ∧ RX p g w w'
def NodeC (D : Nat) : Prop := ∀ (K : Nat → Prop) (B p g : Nat) (S : PS) (w : World) (x : Int), x = (D : Int) → GRd K B p g w S → B ≤ w.heap.size → S.s.l.length ≤ 1000000 →
 Calls Tryz.prog 121 #[.pointer (some ⟨p, 0, none⟩), .int .i64 x] w fun e w' => ∃ u b, e = .returned (a1C (a1j (a0b D) S).2.op (a1j (a0b D) S).2.kind (a1j (a0b D) S).2.fa (a1j (a0b D) S).2.a u b) ∧
  (∀ W, ExtQ (fun k => k < w.heap.size) w' W → RE W u (a1j (a0b D) S).2.ins ∧ a00 D W b (a1j (a0b D) S).2.body) ∧ GRd K B p g w' (a1j (a0b D) S).1 ∧ RX p g w w'
section
variable {K : Nat → Prop} {B B' p g q : Nat} {w w' : World} {S S' : PS} {T : TypeId} {a0 a1 a2 a3 a4 a5 : Value} {Q : Nat → Prop}
theorem GRd.down (h : GRd K B' p g w' S') (k : GRd K B p g w S) : GRd K B p g w' S' := ⟨h.blk, h.nr, h.ne, h.kp, k.lp, k.lg, k.lk⟩
theorem Bx6.a0Q (h : Bx6 w q T a0 a1 a2 a3 a4 a5) (he : ExtQ Q w w') (hq : ¬ Q q) : Bx6 w' q T a0 a1 a2 a3 a4 a5 := ⟨h.b.a0Q he hq⟩
theorem Bx6.set1 (h : Bx6 w q T a0 a1 a2 a3 a4 a5) (v : Value) : Bx6 (w.setCell ⟨q, 1, none⟩ v) q T a0 v a2 a3 a4 a5 := ⟨by simpa using h.b.a0U 1 v⟩
theorem Bx6.set23 (h : Bx6 w q T a0 a1 a2 a3 a4 a5) (v u : Value) : Bx6 ((w.setCell ⟨q, 2, none⟩ v).setCell ⟨q, 3, none⟩ u) q T a0 a1 v u a4 a5 := ⟨by simpa using (h.b.a0U 2 v).a0U 3 u⟩
theorem Bx6.set4 (h : Bx6 w q T a0 a1 a2 a3 a4 a5) (v : Value) : Bx6 (w.setCell ⟨q, 4, none⟩ v) q T a0 a1 a2 a3 v a5 := ⟨by simpa using h.b.a0U 4 v⟩
theorem Bx6.set5 (h : Bx6 w q T a0 a1 a2 a3 a4 a5) (v : Value) : Bx6 (w.setCell ⟨q, 5, none⟩ v) q T a0 a1 a2 a3 a4 v := ⟨by simpa using h.b.a0U 5 v⟩
end
theorem notQ {g q : Nat} {o : Option Nat} (h1 : q ≠ g) (h2 : o ≠ some q) : ¬ (q = g ∨ o = some q) := fun h => h.elim h1 h2
abbrev RZ (B p g : Nat) (w w' : World) : Prop := ExtQ (fun k => k = p ∨ k = g ∨ B ≤ k) w w'
theorem b3T (D : Nat) (hD : D ≤ 2) (hn : a7W D) : NodeC D := by
 intro K B p g S w x hx h hB hl;subst hx;have H0 := hid h;have HA := hid ((h.up hB).ext ((Ext.refl w).alloc (a0i 0 0 0 0 (.slice none 0 0) (.slice none 0 0))));have HRA := hid (Bx6.new w 101 (.int .i64 0) (.slice none 0 0) (.int .i64 0) (.int .i64 0) (.int .i64 0) (.slice none 0 0));have HXA := hid (show RZ w.heap.size p g w (w.alloc (a0i 0 0 0 0 (.slice none 0 0) (.slice none 0 0))) from ExtQ.of ((Ext.refl w).alloc _));have HLP := hid h.size;have HN := hid (a2A g S.s _ HA.o.nr hl);have HNO := hid hn;have hl1 := Num.a15 S.s;have HW := hid (show a1j (a0b D) S = ((a0b D ⟨(Num.a0l (Num.a0l (Num.a0l (rdS (a27 2 ⟨(Num.a0l S.s).1, S.gb⟩).1.s (a27 2 ⟨(Num.a0l S.s).1, S.gb⟩).2)).1).1).1, (a27 2 ⟨(Num.a0l S.s).1, S.gb⟩).1.gb⟩).1, .mk ((Num.a0l S.s).2 : Nat) (rdL (a27 2 ⟨(Num.a0l S.s).1, S.gb⟩).1.s (a27 2 ⟨(Num.a0l S.s).1, S.gb⟩).2) ((Num.a0l (rdS (a27 2 ⟨(Num.a0l S.s).1, S.gb⟩).1.s (a27 2 ⟨(Num.a0l S.s).1, S.gb⟩).2)).2 : Nat) ((Num.a0l (Num.a0l (rdS (a27 2 ⟨(Num.a0l S.s).1, S.gb⟩).1.s (a27 2 ⟨(Num.a0l S.s).1, S.gb⟩).2)).1).2 : Nat) ((Num.a0l (Num.a0l (Num.a0l (rdS (a27 2 ⟨(Num.a0l S.s).1, S.gb⟩).1.s (a27 2 ⟨(Num.a0l S.s).1, S.gb⟩).2)).1).1).2 : Nat) (a0b D ⟨(Num.a0l (Num.a0l (Num.a0l (rdS (a27 2 ⟨(Num.a0l S.s).1, S.gb⟩).1.s (a27 2 ⟨(Num.a0l S.s).1, S.gb⟩).2)).1).1).1, (a27 2 ⟨(Num.a0l S.s).1, S.gb⟩).1.gb⟩).2) from rfl);generalize a1j (a0b D) S = RW at *;generalize Num.a0l S.s = t at *;obtain ⟨s1, n1⟩ := t;dsimp only at *;have hc2 := a7d 2 ⟨s1, S.gb⟩ (by omega)
 have hcl := a2P 2 ⟨s1, S.gb⟩;have HCN := hid (fun B w h => a3j K B p g 2 ⟨s1, S.gb⟩ w h (by show s1.l.length ≤ 1000000; omega))
 generalize a27 2 ⟨s1, S.gb⟩ = cc at *;obtain ⟨⟨s2, gb2⟩, k⟩ := cc;dsimp only at *;have HK2 := hid (show k ≤ 2 by omega)
 have HRL := hid (show ∀ j, (rdS s2 j).l.length ≤ 1000000 from fun j => by have := a7c s2 j; omega)
 generalize hf3 : Num.a0l (rdS s2 k) = t3 at *;obtain ⟨s3, n3⟩ := t3;dsimp only at *;generalize hf4 : Num.a0l s3 = t4 at *;obtain ⟨s4, n4⟩ := t4;dsimp only at *;generalize hf5 : Num.a0l s4 = t5 at *;obtain ⟨s5, n5⟩ := t5;dsimp only at *;have HF3 := hid hf3;have HF4 := hid hf4;have HF5 := hid hf5
 have HL3 := hid (show s3.l.length ≤ 1000000 ∧ s4.l.length ≤ 1000000 ∧ s5.l.length ≤ 1000000 by
  have a : s3.l.length ≤ (rdS s2 k).l.length := by have a := Num.a15 (rdS s2 k); rw [hf3] at a; exact a
  have b : s4.l.length ≤ s3.l.length := by have a := Num.a15 s3; rw [hf4] at a; exact a
  have c : s5.l.length ≤ s4.l.length := by have a := Num.a15 s4; rw [hf5] at a; exact a
  have := HRL.o k
  exact ⟨by omega, by omega, by omega⟩)
 clear h hB hl hn hl1 hc2 hcl hf3 hf4 hf5
 go_enter Tryz.func121, Tryz.ntmps121
 go_upto_region 1 with fail
 obtain ⟨r, hr⟩ : ∃ r, r = w.heap.size := ⟨_, rfl⟩;rw [← hr] at HA HRA HXA ⊢;have HR := hid hr;clear hr;generalize w.alloc (a0i 0 0 0 0 (.slice none 0 0) (.slice none 0 0)) = wA at *;obtain ⟨c0, c1, f1⟩ := HA.o.at_
 go_wp2_with fail
 refine HN.o.mono ?_;rintro e w1 ⟨rfl, hr1, he1⟩;have H1 := hid (HA.o.num hr1 he1);have HX1 := hid (HXA.o.trans ((ExtQ.a5Y (Q := fun k => k = g) he1 rfl).mono fun k hk => .inr (.inl hk)))
 have HR1 := hid (Bx6.a0Q HRA.o (ExtQ.a5Y (Q := fun k => k = g) he1 rfl) (fun q => by have := HA.o.lg; omega))
 clear hr1 he1 c0 c1 f1;have hal := (Ext.refl w1).alloc (a0i (n1 : Nat) 0 0 0 (.slice none 0 0) (.slice none 0 0));have HQB := hid (Bx6.new w1 101 (.int .i64 (n1 : Nat)) (.slice none 0 0) (.int .i64 0) (.int .i64 0) (.int .i64 0) (.slice none 0 0));have HB2 := hid (H1.o.ext hal);have HXB := hid (HX1.o.trans (ExtQ.of hal));have HRB := hid (HR1.o.ext hal);have HQN := hid (show r < w1.heap.size from HR1.o.b.lt);clear hal
 go_upto_region 2 with fail
 generalize w1.heap.size = q at *;generalize w1.alloc (a0i (n1 : Nat) 0 0 0 (.slice none 0 0) (.slice none 0 0)) = wB at *
 go_wp2_with fail
 refine (HCN.o _ _ HB2.o).mono ?_;rintro e w2 ⟨rfl, hg2, hx2⟩;have HNQ := hid (show q ≠ p ∧ q ≠ g ∧ r ≠ p ∧ r ≠ g ∧ q ≠ r from by have h1 := HB2.o.lp; have h2 := HB2.o.lg; have h3 := HQN.o; exact ⟨by omega, by omega, by omega, by omega, by omega⟩)
 have H2 := hid hg2;have HX2 := hid (HXB.o.trans (hx2.mono fun k hk => by rcases hk with hk | hk; exact .inl hk; exact .inr (.inl hk)))
 have HQ2 := hid (Bx6.a0Q HQB.o hx2 (fun q => by have := HNQ.o; omega))
 have HR2 := hid (Bx6.a0Q HRB.o hx2 (fun q => by have := HNQ.o; omega))
 have HSZ := hid (show q < w2.heap.size ∧ r < w2.heap.size from ⟨HQ2.o.b.lt, HR2.o.b.lt⟩);clear hg2 hx2
 go_wp2
 go_loopw [14] (fun iv wr => ∃ j : Nat, j ≤ k ∧ iv = .int .i64 (j : Int) ∧ ∃ sl, OE 3 w2.heap.size wr sl (rdL s2 j) ∧ Bx6 wr q 101 (.int .i64 (n1 : Nat)) sl (.int .i64 0) (.int .i64 0) (.int .i64 0) (.slice none 0 0) ∧
  Bx6 wr r 101 (.int .i64 0) (.slice none 0 0) (.int .i64 0) (.int .i64 0) (.int .i64 0) (.slice none 0 0) ∧ GRd K r p g wr ⟨rdS s2 j, gb2⟩ ∧ RZ r p g w wr ∧ w2.heap.size ≤ wr.heap.size) (fun iv _ => k - (intOf iv).toNat)
 case atStart => exact ⟨0, Nat.zero_le _, rfl, _, OE.a2F _ _ _, HQ2.o, HR2.o, H2.o, HX2.o, Nat.le_refl _⟩
 case round =>
 obtain ⟨j, hj, rfl, sl, ho, hq, hr, hg, hx, hsz⟩ := hrel;have HO := hid ho;have HQ := hid hq;have HRR := hid hr;have HG := hid hg;have HX := hid hx;have HZ := hid hsz;have hj2 : j ≤ 2 := by have := HK2.o; omega
 obtain ⟨AO, cO, hvo⟩ := ho.re.form;have hll := b07 s2 j;have HLL := hid hll;rw [hll] at hvo;subst hvo;obtain ⟨c0, c1, f1⟩ := hg.at_;obtain ⟨b0, b1, b2, b3, b4, b5⟩ := hq.at_
 have HOW := hid (show (Value.slice AO j cO).ownBlock ≠ some q ∧ (Value.slice AO j cO).ownBlock ≠ some p ∧ (Value.slice AO j cO).ownBlock ≠ some r ∧ (Value.slice AO j cO).ownBlock ≠ some g from by
  have h1 := HSZ.o;have h2 := HG.o.lp;have h3 := HG.o.lg
  exact ⟨fun e => by have := (HO.o.own.lt _ e).1; omega, fun e => by have := (HO.o.own.lt _ e).1; omega, fun e => by have := (HO.o.own.lt _ e).1; omega, fun e => by have := (HO.o.own.lt _ e).1; omega⟩)
 clear ho hq hr hg hx hsz hll
 by_cases hlt : j < k
 · have q1 : (j : Int) < (k : Int) := by omega
   have q0 : 0 ≤ (j : Int) := by omega
   have HLT := hid hlt;have HNU := hid (fun w (h : NR K w g (rdS s2 j)) => a2A g (rdS s2 j) w h (HRL.o j))
   have HSS := hid (show rdS s2 (j + 1) = (Num.a0l (rdS s2 j)).1 from rfl);have HSL := hid (show rdL s2 (j + 1) = rdL s2 j ++ [((Num.a0l (rdS s2 j)).2 : Int)] from rfl);generalize Num.a0l (rdS s2 j) = t at *;obtain ⟨sn, nn⟩ := t;dsimp only at HNU HSS HSL;generalize rdL s2 j = L at *
   go_upto_region 4 with fail
   refine a1r 10 [22, 24] [23] Ext (ExtQ (fun k => k = g ∨ (Value.slice AO j cO).ownBlock = some k)) (fun w' => GRd K r p g w' ⟨rdS s2 j, gb2⟩ ∧ OE 3 w2.heap.size w' (.slice AO j cO) L) (by kernel_rfl) (by kernel_rfl) (by kernel_rfl) (by kernel_rfl) (by kernel_rfl) (by kernel_rfl) (by kernel_rfl) (by rfl) (by rfl) (by kernel_rfl) (by kernel_rfl) (by kernel_rfl) (fun _ _ _ x y => x.trans y) (ExtQ.refl _) (fun _ _ x => ExtQ.of x) Ext.refl (Ext.refl _).drew (fun _ _ x y => ⟨x.1.ext y, OE.ext x.2 y⟩) (⟨HG.o, HO.o⟩) ?_
   repeat (first | (refine a0I rfl rfl (fun _ => (a05 rfl)) Ext.refl rfl rfl (fun _ => rfl) ?_; apply Exists.intro; refine ⟨?_, ?_⟩; · (go_simp; rfl)) | (refine a0M rfl rfl (fun _ => (a05 rfl)) Ext.refl rfl ?_; apply Exists.intro; refine ⟨?_, ?_⟩; · (intro c a w' hR; (try (intro h1; try have e1 : _ = _ := h1)); (try (intro h2; try have e2 : _ = _ := h2)); (try (intro h3; try have e3 : _ = _ := h3)); go_simp; rfl)))
   refine a0M rfl rfl (fun _ => (a05 rfl)) Ext.refl rfl ?_; apply Exists.intro; refine ⟨?_, ?_⟩
   · intro c a w' hR h1
     have e1 : _ = _ := h1;have hl1 := (HQ.o.b.a0Q hR (notQ HNQ.o.2.1 HOW.o.1)).cell 1;go_simp;rfl
   repeat (first | (refine a0I rfl rfl (fun _ => (a05 rfl)) Ext.refl rfl rfl (fun _ => rfl) ?_; apply Exists.intro; refine ⟨?_, ?_⟩; · (go_simp; rfl)) | (refine a0M rfl rfl (fun _ => (a05 rfl)) Ext.refl rfl ?_; apply Exists.intro; refine ⟨?_, ?_⟩; · (intro c a w' hR; (try (intro h1; try have e1 : _ = _ := h1)); (try (intro h2; try have e2 : _ = _ := h2)); (try (intro h3; try have e3 : _ = _ := h3)); go_simp; rfl)))
   refine a0M rfl rfl (fun _ => (a05 rfl)) Ext.refl rfl ?_; apply Exists.intro; refine ⟨?_, ?_⟩
   · intro c a w' hR h1
     have e1 : _ = _ := h1;have hl1 := (HG.o.blk.a0Q hR (notQ HG.o.ne HOW.o.2.1)).cell 0;go_simp;rfl
   repeat (first | (refine a0I rfl rfl (fun _ => (a05 rfl)) Ext.refl rfl rfl (fun _ => rfl) ?_; apply Exists.intro; refine ⟨?_, ?_⟩; · (go_simp; rfl)) | (refine a0M rfl rfl (fun _ => (a05 rfl)) Ext.refl rfl ?_; apply Exists.intro; refine ⟨?_, ?_⟩; · (intro c a w' hR; (try (intro h1; try have e1 : _ = _ := h1)); (try (intro h2; try have e2 : _ = _ := h2)); (try (intro h3; try have e3 : _ = _ := h3)); go_simp; rfl)))
   refine a4c (fun c v _ => v = .int .i64 (nn : Nat)) (fun w' => GRd K r p g w' ⟨sn, gb2⟩ ∧ OE 3 w2.heap.size w' (.slice AO j cO) L) rfl (a05 rfl) rfl (a1U) (fun _ _ x y => ⟨x.1.ext y, OE.ext x.2 y⟩) ?_ ?_
   · intro a w' hR hS h1 K hK
     have e1 : _ = _ := h1;go_simp;refine (HNU.o w' hS.1.nr).mono ?_;rintro e w3 ⟨rfl, hr3, he3⟩;exact hK _ _ (ExtQ.a5Y he3 (.inl rfl)) ⟨hS.1.num hr3 he3, OE.a5Q hS.2 (ExtQ.a5Y (Q := fun k => k = g) he3 rfl) (fun i hi e => HOW.o.2.2.2 (by rw [hi, e]))⟩ rfl
   refine a2e (fun c v w => 1 ≤ c ∧ (c ≤ 1 → RE w v [(nn : Int)])) rfl rfl (a05 rfl) rfl (a5J fun _ _ _ h k => RE.ext h k) ?_ ?_
   · intro a w' hR hS h1 K hK
     have e1 : _ = _ := h1;have q1 : a.tmps[22]?.getD undef = .int .i64 (nn : Nat) := by rw [← Array.getD_eq_getD_getElem?]; exact e1
     go_simp;exact hK _ _ ((Ext.refl _).alloc _) ⟨Nat.le_refl _, fun _ => b3S _ _⟩
   refine a4c (fun c v w => 2 ≤ c ∧ (c ≤ 2 → OE 3 w2.heap.size w v (L ++ [(nn : Int)]))) (fun w' => GRd K r p g w' ⟨sn, gb2⟩) rfl (a05 rfl) rfl (a5J fun _ _ _ h k => OE.ext h k) (fun _ _ x y => x.ext y) ?_ ?_
   · intro a w' hR hS h1 h2 K hK
     have e1 : _ = _ := h1;obtain ⟨y, ey, fy⟩ : ∃ x, a.tmps.getD 23 undef = x ∧ (fun v w => 1 ≤ 0 + 1 ∧ (0 + 1 ≤ 1 → RE w v [(nn : Int)])) x w' := ⟨_, rfl, h2⟩
     refine a9c elemI w' (.tmp 17) (.tmp 23) rfl w2.heap.size _ L.length (eV L) e1 hS.2.own _ 1 (eV [(nn : Int)]) ey (fy.2 (Nat.le_refl _)).rd (a7A _) (by have := HLL.o; omega) (by have := HLL.o; unfold maxLen; omega) (by have h1 := HZ.o; have h2 := hR.size; omega) ?_
     intro v' w3 ha;exact hK _ _ (ExtQ.grown ha.grown (fun i hi => .inr hi)) (hS.1.a0Q (ExtQ.grown ha.grown (fun i hi => by have h1 := (HO.o.own.lt i hi).1; have h2 := HSZ.o.2; show r ≤ i; omega))) ⟨Nat.le_refl _, fun _ => OE.app' ha⟩
   repeat (first | (refine a0I rfl rfl (fun _ => (a05 rfl)) Ext.refl rfl rfl (fun _ => rfl) ?_; apply Exists.intro; refine ⟨?_, ?_⟩; · (go_simp; rfl)) | (refine a0M rfl rfl (fun _ => (a05 rfl)) Ext.refl rfl ?_; apply Exists.intro; refine ⟨?_, ?_⟩; · (intro c a w' hR; (try (intro h1; try have e1 : _ = _ := h1)); (try (intro h2; try have e2 : _ = _ := h2)); (try (intro h3; try have e3 : _ = _ := h3)); go_simp; rfl)))
   refine a5I ?_;intro w6 hx6 hS6
   iterate 7 (rintro _ rfl)
   rintro v23 h23;rintro v24 h24;rintro _ rfl;dsimp only [a1K];go_simp;have ho6 := h24.2 (Nat.le_refl _);obtain ⟨A6, c6, hv6⟩ := ho6.re.form;rw [List.length_append, List.length_singleton, HLL.o] at hv6;subst hv6;have HO6 := hid ho6;have HG6 := hid (show GRd K r p g w6 ⟨sn, gb2⟩ from hS6);have HX6 := hid (show ExtQ (fun k => k = g ∨ (Value.slice AO j cO).ownBlock = some k) wr w6 from hx6)
   have HQ6 := hid (Bx6.a0Q HQ.o HX6.o (notQ HNQ.o.2.1 HOW.o.1));have HR6 := hid (Bx6.a0Q HRR.o HX6.o (notQ HNQ.o.2.2.2.1 HOW.o.2.2.1));clear h23 h24 ho6 hS6 hx6 b0 b1 b2 b3 b4 b5 c0 c1 f1;obtain ⟨b0, b1, b2, b3, b4, b5⟩ := HQ6.o.at_;have f1 : w6.frozen? ⟨q, 1, none⟩ = false := HQ6.o.b.frozen 1;have hst : ExtQ (fun k => k = q) w6 (w6.setCell ⟨q, 1, none⟩ (.slice A6 (j + 1) c6)) := ExtQ.setCell (Q := fun k => k = q) (ExtQ.refl _ _) (p := ⟨q, 1, none⟩) rfl _
   have HQ7 := hid (HQ6.o.set1 (.slice A6 (j + 1) c6));have HR7 := hid (Bx6.a0Q HR6.o hst (fun e => HNQ.o.2.2.2.2 e.symm))
   have HG7 := hid (HG6.o.a0Q (hst.mono fun i hi => by have h1 := HQN.o; show r ≤ i; omega))
   have HO7 := hid (OE.a5Q HO6.o hst (fun i hi e => by have h1 := (HO6.o.own.lt i hi).1; have h2 := HSZ.o.1; omega))
   have HX7 := hid (show RZ r p g w (w6.setCell ⟨q, 1, none⟩ (.slice A6 (j + 1) c6)) from (HX.o.trans (HX6.o.mono fun i hi => by
    rcases hi with hi | hi
    · exact .inr (.inl hi)
    exact .inr (.inr (by have h1 := (HO.o.own.lt i hi).1; have h2 := HSZ.o.2; omega)))).trans (hst.mono fun i hi => .inr (.inr (by have h1 := HQN.o; omega))))
   have HZ7 := hid (show w2.heap.size ≤ (w6.setCell ⟨q, 1, none⟩ (.slice A6 (j + 1) c6)).heap.size from Nat.le_trans HZ.o (Nat.le_trans HX6.o.size hst.size));clear hst;obtain ⟨m, hm⟩ : ∃ m, m = j + 1 := ⟨_, rfl⟩;rw [← hm] at HQ7 HR7 HG7 HO7 HX7 HZ7 HSS HSL ⊢;have HM := hid hm;clear hm;simp only [a0x, List.drop_succ_cons, List.drop_zero]
   go_wp2
   exact ⟨⟨m, by have h1 := HM.o; have h2 := HLT.o; omega, by have h1 := HM.o; subst h1; go_num, _, by rw [HSL.o]; exact HO7.o, HQ7.o, HR7.o, by rw [HSS.o]; exact HG7.o, HX7.o, HZ7.o⟩, by have h1 := HM.o; have h2 := HLT.o; simp [intOf]; omega⟩
 obtain rfl : j = k := by omega
 have q1 : ¬ (j : Int) < (j : Int) := by omega
 go_upto_region 6 with fail
 have HN3 := hid (fun w (h : NR K w g (rdS s2 j)) => a2A g (rdS s2 j) w h (HRL.o j))
 rw [HF3.o] at HN3;have HN4 := hid (fun w (h : NR K w g s3) => a2A g s3 w h HL3.o.1)
 rw [HF4.o] at HN4;have HN5 := hid (fun w (h : NR K w g s4) => a2A g s4 w h HL3.o.2.1)
 rw [HF5.o] at HN5;dsimp only at HN3 HN4 HN5;refine a1r 12 [31, 36] [] Ext (ExtQ (fun k => k = g)) (fun w' => GRd K r p g w' ⟨rdS s2 j, gb2⟩) (by kernel_rfl) (by kernel_rfl) (by kernel_rfl) (by kernel_rfl) (by kernel_rfl) (by kernel_rfl) (by kernel_rfl) (by rfl) (by rfl) (by kernel_rfl) (by kernel_rfl) (by kernel_rfl) (fun _ _ _ x y => x.trans y) (ExtQ.refl _) (fun _ _ x => ExtQ.of x) Ext.refl (Ext.refl _).drew (fun _ _ x y => x.ext y) (HG.o) ?_
 repeat (first | (refine a0I rfl rfl (fun _ => (a05 rfl)) Ext.refl rfl rfl (fun _ => rfl) ?_; apply Exists.intro; refine ⟨?_, ?_⟩; · (go_simp; rfl)) | (refine a0M rfl rfl (fun _ => (a05 rfl)) Ext.refl rfl ?_; apply Exists.intro; refine ⟨?_, ?_⟩; · (intro c a w' hR; (try (intro h1; try have e1 : _ = _ := h1)); (try (intro h2; try have e2 : _ = _ := h2)); (try (intro h3; try have e3 : _ = _ := h3)); go_simp; rfl)))
 refine a0M rfl rfl (fun _ => (a05 rfl)) Ext.refl rfl ?_; apply Exists.intro; refine ⟨?_, ?_⟩
 · intro c a w' hR h1
   have e1 : _ = _ := h1;have hl1 := (HG.o.blk.a0Q hR HG.o.ne).cell 0;go_simp;rfl
 repeat (first | (refine a0I rfl rfl (fun _ => (a05 rfl)) Ext.refl rfl rfl (fun _ => rfl) ?_; apply Exists.intro; refine ⟨?_, ?_⟩; · (go_simp; rfl)) | (refine a0M rfl rfl (fun _ => (a05 rfl)) Ext.refl rfl ?_; apply Exists.intro; refine ⟨?_, ?_⟩; · (intro c a w' hR; (try (intro h1; try have e1 : _ = _ := h1)); (try (intro h2; try have e2 : _ = _ := h2)); (try (intro h3; try have e3 : _ = _ := h3)); go_simp; rfl)))
 refine a4c (fun c v _ => v = .int .i64 (n3 : Nat)) (fun w' => GRd K r p g w' ⟨s3, gb2⟩) rfl (a05 rfl) rfl (a1U) (fun _ _ x y => x.ext y) ?_ ?_
 · intro a w' hR hS h1 K hK
   have e1 : _ = _ := h1;go_simp;refine (HN3.o w' hS.nr).mono ?_;rintro e w3 ⟨rfl, hr3, he3⟩;exact hK _ _ (ExtQ.a5Y he3 rfl) (hS.num hr3 he3) rfl
 repeat (first | (refine a0I rfl rfl (fun _ => (a05 rfl)) Ext.refl rfl rfl (fun _ => rfl) ?_; apply Exists.intro; refine ⟨?_, ?_⟩; · (go_simp; rfl)) | (refine a0M rfl rfl (fun _ => (a05 rfl)) Ext.refl rfl ?_; apply Exists.intro; refine ⟨?_, ?_⟩; · (intro c a w' hR; (try (intro h1; try have e1 : _ = _ := h1)); (try (intro h2; try have e2 : _ = _ := h2)); (try (intro h3; try have e3 : _ = _ := h3)); go_simp; rfl)))
 refine a0M rfl rfl (fun _ => (a05 rfl)) Ext.refl rfl ?_; apply Exists.intro; refine ⟨?_, ?_⟩
 · intro c a w' hR h1
   have e1 : _ = _ := h1;have hl1 := (HG.o.blk.a0Q hR HG.o.ne).cell 0;go_simp;rfl
 repeat (first | (refine a0I rfl rfl (fun _ => (a05 rfl)) Ext.refl rfl rfl (fun _ => rfl) ?_; apply Exists.intro; refine ⟨?_, ?_⟩; · (go_simp; rfl)) | (refine a0M rfl rfl (fun _ => (a05 rfl)) Ext.refl rfl ?_; apply Exists.intro; refine ⟨?_, ?_⟩; · (intro c a w' hR; (try (intro h1; try have e1 : _ = _ := h1)); (try (intro h2; try have e2 : _ = _ := h2)); (try (intro h3; try have e3 : _ = _ := h3)); go_simp; rfl)))
 refine a4c (fun c v _ => v = .int .i64 (n4 : Nat)) (fun w' => GRd K r p g w' ⟨s4, gb2⟩) rfl (a05 rfl) rfl (a1U) (fun _ _ x y => x.ext y) ?_ ?_
 · intro a w' hR hS h1 K hK
   have e1 : _ = _ := h1;go_simp;refine (HN4.o w' hS.nr).mono ?_;rintro e w3 ⟨rfl, hr3, he3⟩;exact hK _ _ (ExtQ.a5Y he3 rfl) (hS.num hr3 he3) rfl
 refine a0M rfl rfl (fun _ => (a05 rfl)) Ext.refl rfl ?_; apply Exists.intro; refine ⟨?_, ?_⟩
 · intro c a w' hR h1 h2
   have e1 : _ = _ := h1;have e2 : _ = _ := h2;have q1 := e1; rw [Array.getD_eq_getD_getElem?] at q1;have q2 := e2; rw [Array.getD_eq_getD_getElem?] at q2;go_simp;rfl
 repeat (first | (refine a0I rfl rfl (fun _ => (a05 rfl)) Ext.refl rfl rfl (fun _ => rfl) ?_; apply Exists.intro; refine ⟨?_, ?_⟩; · (go_simp; rfl)) | (refine a0M rfl rfl (fun _ => (a05 rfl)) Ext.refl rfl ?_; apply Exists.intro; refine ⟨?_, ?_⟩; · (intro c a w' hR; (try (intro h1; try have e1 : _ = _ := h1)); (try (intro h2; try have e2 : _ = _ := h2)); (try (intro h3; try have e3 : _ = _ := h3)); go_simp; rfl)))
 refine a5I ?_;intro w6 hx6 hS6
 iterate 12 (rintro _ rfl)
 dsimp only [a1K];go_simp;have HG6 := hid (show GRd K r p g w6 ⟨s4, gb2⟩ from hS6);have HX6 := hid (show ExtQ (fun k => k = g) wr w6 from hx6)
 have HQ6 := hid (Bx6.a0Q HQ.o HX6.o HNQ.o.2.1);have HR6 := hid (Bx6.a0Q HRR.o HX6.o HNQ.o.2.2.2.1);have HO6 := hid (OE.a5Q HO.o HX6.o (fun i hi e => HOW.o.2.2.2 (by rw [hi, e])))
 clear hS6 hx6 b0 b1 b2 b3 b4 b5 c0 c1 f1;obtain ⟨b0, b1, b2, b3, b4, b5⟩ := HQ6.o.at_;have f2 : w6.frozen? ⟨q, 2, none⟩ = false := HQ6.o.b.frozen 2;have f3 : w6.frozen? ⟨q, 3, none⟩ = false := HQ6.o.b.frozen 3;have hst : ExtQ (fun k => k = q) w6 ((w6.setCell ⟨q, 2, none⟩ (.int .i64 (n3 : Nat))).setCell ⟨q, 3, none⟩ (.int .i64 (n4 : Nat))) := ExtQ.setCell (Q := fun k => k = q) (ExtQ.setCell (Q := fun k => k = q) (ExtQ.refl _ _) (p := ⟨q, 2, none⟩) rfl _) (p := ⟨q, 3, none⟩) rfl _
 have HQ7 := hid (HQ6.o.set23 (.int .i64 (n3 : Nat)) (.int .i64 (n4 : Nat)));have HR7 := hid (Bx6.a0Q HR6.o hst (fun e => HNQ.o.2.2.2.2 e.symm))
 have HG7 := hid (HG6.o.a0Q (hst.mono fun i hi => by have h1 := HQN.o; show r ≤ i; omega))
 have HO7 := hid (OE.a5Q HO6.o hst (fun i hi e => by have h1 := (HO6.o.own.lt i hi).1; have h2 := HSZ.o.1; omega))
 have HX7 := hid (show RZ r p g w _ from (HX.o.trans (HX6.o.mono fun i hi => .inr (.inl hi))).trans (hst.mono fun i hi => .inr (.inr (by have h1 := HQN.o; omega))))
 have HZ7 := hid (Nat.le_trans HZ.o (Nat.le_trans HX6.o.size hst.size));clear hst;simp only [a0x, List.drop_succ_cons, List.drop_zero]
 go_upto_region 7 with fail
 clear b0 b1 b2 b3 b4 b5 f2 f3;generalize (w6.setCell ⟨q, 2, none⟩ (.int .i64 (n3 : Nat))).setCell ⟨q, 3, none⟩ (.int .i64 (n4 : Nat)) = w7 at *;obtain ⟨c0, c1, f1⟩ := HG7.o.at_;have HB9 := hid (HN5.o _ HG7.o.nr)
 go_wp2_with fail
 refine HB9.o.mono ?_;rintro e w8 ⟨rfl, hr8, he8⟩;have HG8 := hid (HG7.o.num hr8 he8);have hx8 := ExtQ.a5Y (Q := fun k => k = g) he8 rfl
 have HQ8 := hid (Bx6.a0Q HQ7.o hx8 HNQ.o.2.1);have HR8 := hid (Bx6.a0Q HR7.o hx8 HNQ.o.2.2.2.1);have HO8 := hid (OE.a5Q HO7.o hx8 (fun i hi e => by have h1 := (HO7.o.own.lt i hi).1; have h2 := HSZ.o.2; have h3 := HG7.o.lg; omega))
 have HX8 := hid (show RZ r p g w w8 from HX7.o.trans (hx8.mono fun i hi => .inr (.inl hi)))
 clear hx8 hr8 he8 c0 c1 f1;obtain ⟨b0, b1, b2, b3, b4, b5⟩ := HQ8.o.at_;have f4 : w8.frozen? ⟨q, 4, none⟩ = false := HQ8.o.b.frozen 4;have hst : ExtQ (fun k => k = q) w8 (w8.setCell ⟨q, 4, none⟩ (.int .i64 (n5 : Nat))) := ExtQ.setCell (Q := fun k => k = q) (ExtQ.refl _ _) (p := ⟨q, 4, none⟩) rfl _
 have HQ9 := hid (HQ8.o.set4 (.int .i64 (n5 : Nat)));have HR9 := hid (Bx6.a0Q HR8.o hst (fun e => HNQ.o.2.2.2.2 e.symm))
 have HG9 := hid (HG8.o.a0Q (hst.mono fun i hi => by have h1 := HQN.o; show r ≤ i; omega))
 have HO9 := hid (OE.a5Q HO8.o hst (fun i hi e => by have h1 := (HO8.o.own.lt i hi).1; have h2 := HSZ.o.1; omega))
 have HX9 := hid (show RZ r p g w _ from HX8.o.trans (hst.mono fun i hi => .inr (.inr (by have h1 := HQN.o; omega))))
 clear hst
 go_upto_region 8 with fail
 clear b0 b1 b2 b3 b4 b5 f4;generalize w8.setCell ⟨q, 4, none⟩ (.int .i64 (n5 : Nat)) = w9 at *;have HCB := hid (HNO.o K r p g ⟨s5, gb2⟩ w9 ((D : Int) - 1) rfl HG9.o (Nat.le_of_lt HR9.o.b.lt) HL3.o.2.2);have HS9 := hid (show q < w9.heap.size ∧ r < w9.heap.size from ⟨HQ9.o.b.lt, HR9.o.b.lt⟩);generalize a0b D ⟨s5, gb2⟩ = bb at *;obtain ⟨SB, LB⟩ := bb;dsimp only at HCB HW;obtain rfl := HW.o
 go_wp2_with fail
 refine HCB.o.mono ?_;rintro e w10 ⟨vb, rfl, hvb, hgb, hxb⟩;have HVB := hid hvb;have HGB := hid hgb;obtain ⟨Ab, cb, rfl⟩ := (hvb w10 (ExtQ.refl _ _)).form;have HQ10 := hid (Bx6.a0Q HQ9.o hxb (fun e => e.elim HNQ.o.1 HNQ.o.2.1))
 have HR10 := hid (Bx6.a0Q HR9.o hxb (fun e => e.elim HNQ.o.2.2.1 HNQ.o.2.2.2.1))
 have HO10 := hid (OE.a5Q HO9.o hxb (fun i hi e => by have h1 := (HO9.o.own.lt i hi).1; have h2 := HSZ.o.2; have h3 := HG9.o.lg; have h4 := HG9.o.lp; omega))
 have HX10 := hid (show RZ r p g w w10 from HX9.o.trans (hxb.mono fun i hi => hi.elim .inl fun h => .inr (.inl h)))
 clear hvb hgb hxb;obtain ⟨b0, b1, b2, b3, b4, b5⟩ := HQ10.o.at_;have f5 : w10.frozen? ⟨q, 5, none⟩ = false := HQ10.o.b.frozen 5;have hst : ExtQ (fun k => k = q) w10 (w10.setCell ⟨q, 5, none⟩ (.slice Ab LB.length cb)) := ExtQ.setCell (Q := fun k => k = q) (ExtQ.refl _ _) (p := ⟨q, 5, none⟩) rfl _
 have HT := hid hst;have HQ11 := hid (HQ10.o.set5 (.slice Ab LB.length cb));have HR11 := hid (Bx6.a0Q HR10.o hst (fun e => HNQ.o.2.2.2.2 e.symm))
 have HX11 := hid (show RZ r p g w _ from HX10.o.trans (hst.mono fun i hi => .inr (.inr (by have h1 := HQN.o; omega))))
 clear hst;obtain ⟨AI, cI, hfi⟩ := HO10.o.re.form;rw [HLL.o] at hfi;injection hfi with hfi1 hfi2 hfi3
 subst hfi1;subst hfi3;clear hfi2
 go_upto_region 9 with fail
 clear b0 b1 b2 b3 b4 b5 f5;generalize w10.setCell ⟨q, 5, none⟩ (.slice Ab LB.length cb) = w11 at *;obtain ⟨b0, b1, b2, b3, b4, b5⟩ := HQ11.o.at_;have j0 : w11.frozen? ⟨r, 0, none⟩ = false := HR11.o.b.frozen 0;have j1 : w11.frozen? ⟨r, 1, none⟩ = false := HR11.o.b.frozen 1;have j2 : w11.frozen? ⟨r, 2, none⟩ = false := HR11.o.b.frozen 2;have j3 : w11.frozen? ⟨r, 3, none⟩ = false := HR11.o.b.frozen 3;have j4 : w11.frozen? ⟨r, 4, none⟩ = false := HR11.o.b.frozen 4;have j5 : w11.frozen? ⟨r, 5, none⟩ = false := HR11.o.b.frozen 5;obtain ⟨d0, d1, d2, d3, d4, d5⟩ := HR11.o.at_;have HF := hid (HR11.o.fill (.int .i64 (n1 : Nat)) (.slice AO j cO) (.int .i64 (n3 : Nat)) (.int .i64 (n4 : Nat)) (.int .i64 (n5 : Nat)) (.slice Ab LB.length cb));have hxq := a6Y (ExtQ.refl (fun k => k = r) w11) (q := r) rfl (.int .i64 (n1 : Nat)) (.slice AO j cO) (.int .i64 (n3 : Nat)) (.int .i64 (n4 : Nat)) (.int .i64 (n5 : Nat)) (.slice Ab LB.length cb)
 have HXQ := hid hxq;clear hxq
 go_wp2
 generalize (((((w11.setCell ⟨r, 0, none⟩ (.int .i64 (n1 : Nat))).setCell ⟨r, 1, none⟩ (.slice AO j cO)).setCell ⟨r, 2, none⟩ (.int .i64 (n3 : Nat))).setCell ⟨r, 3, none⟩ (.int .i64 (n4 : Nat))).setCell ⟨r, 4, none⟩ (.int .i64 (n5 : Nat))).setCell ⟨r, 5, none⟩ (.slice Ab LB.length cb) = wz at *;have HTZ := hid (show ExtQ (fun k => k = q ∨ k = r) w10 wz from (HT.o.mono fun i hi => .inl hi).trans (HXQ.o.mono fun i hi => .inr hi))
 have HOZ := hid (OE.a5Q HO10.o HTZ.o (fun i hi e => by have h1 := (HO10.o.own.lt i hi).1; have h2 := HSZ.o; omega))
 have HST := hid (fun (W : World) (hW : ExtQ (fun k => k < w.heap.size) wz W) => (⟨(OE.a5Q HOZ.o hW (fun i hi q => by have h1 := (HOZ.o.own.lt i hi).1; have h2 := HSZ.o; have h3 := HR.o; omega)).re,
  HVB.o W ((HTZ.o.mono fun i hi => by have h1 := HS9.o; show i < w9.heap.size; omega).trans (hW.mono fun i hi => by have h1 := HS9.o; have h3 := HR.o; show i < w9.heap.size; omega))⟩ : RE W (.slice AO j cO) (rdL s2 j) ∧ a00 D W (.slice Ab LB.length cb) LB))
 have HGZ := hid ((HGB.o.a0Q (HTZ.o.mono fun i hi => by have h1 := HQN.o; show r ≤ i; omega)).down H0.o)
 have HXZ := hid (show RX p g w wz from (HX11.o.trans (HXQ.o.mono fun i hi => .inr (.inr (by show r ≤ i; omega)))).a6b fun i hi hq => hq.elim .inl fun h => h.elim .inr fun h => by have h3 := HR.o; omega)
 obtain ⟨y0, y1, y2, y3, y4, y5⟩ := HF.o.at_
 exact bodyPost_ret (v := a1C (n1 : Nat) (n3 : Nat) (n4 : Nat) (n5 : Nat) (.slice AO j cO) (.slice Ab LB.length cb)) (by simp [results, Tryz.results121, go_sem, y0, y1, y2, y3, y4, y5]) rfl
  ⟨_, _, rfl, HST.o, HGZ.o, HXZ.o⟩
end Go.Proofs.YtdkejfjcchlnpaaGreat
namespace Go.Proofs.YtdkejfjcchlnpaaGreat
open Go.RowKit Go.Ox Go.Ox.Gr
attribute [local irreducible] RE OE a00
theorem b3U (w : World) (E : TypeId) (op kind fa a : Int) (A : Option Addr) (n c : Nat) (A' : Option Addr) (n' c' : Nat) :
 Rd (w.alloc (.cells #[.int .i64 op, .slice A n c, .int .i64 kind, .int .i64 fa, .int .i64 a, .slice A' n' c'] E)) 6 (.slice (some ⟨w.heap.size, 0, none⟩) 1 1) 1 [.int .i64 op, .slice A n c, .int .i64 kind, .int .i64 fa, .int .i64 a, .slice A' n' c'] :=
 Rd.a3t (base := w.heap.size) (World.ownsRow_lit w #[.int .i64 op, .slice A n c, .int .i64 kind, .int .i64 fa, .int .i64 a, .slice A' n' c'] 1 (Nat.le_refl _) (by unfold maxLen; omega) rfl)
theorem b3V (op kind fa a : Int) (A : Option Addr) (n c : Nat) (A' : Option Addr) (n' c' : Nat) : ∀ u ∈ ([.int .i64 op, .slice A n c, .int .i64 kind, .int .i64 fa, .int .i64 a, .slice A' n' c'] : List Value), u.oneCell' = true := by
 intro u hu;simp at hu
 rcases hu with rfl | rfl | rfl | rfl | rfl | rfl <;> rfl
theorem a8Q : a7W 0 := by
 intro K B p g S w x hx h hB hl;have hx0 : x < 0 := by omega
 clear hx;have HC := hid (a3j K B p g 0 S w h hl);have HP := hid (show a0b 0 S = ((a27 0 S).1, []) from rfl);have hle := a7d 0 S (by omega)
 generalize a0b 0 S = R at *;generalize a27 0 S = cc at *;obtain ⟨S1, n⟩ := cc;dsimp only at *;obtain rfl : n = 0 := by omega
 obtain rfl := HP.o;clear h hl hB hle
 go_enter Tryz.func93, Tryz.ntmps93
 go_wp2_with fail
 refine HC.o.mono ?_;rintro e w1 ⟨rfl, hg1, hx1⟩;have HG := hid hg1;have HX := hid hx1;clear hg1 hx1
 go_wp2
 go_loopw [6, 7] (fun o iv wr => o = .slice none 0 0 ∧ iv = .int .i64 0 ∧ wr = w1) (fun _ _ _ => 0)
 case atStart => exact ⟨rfl, rfl, rfl⟩
 case round =>
 obtain ⟨rfl, rfl, rfl⟩ := hrel
 go_wp2
 go_ret
 exact ⟨_, rfl, fun W _ => a00.nil _ _, HG.o, HX.o⟩
theorem b28 (D : Nat) (hD : D ≤ 2) (hn : NodeC D) : a7W (D + 1) := by
 intro K B p g S w x hx h hB hl;have hx2 : x = (D : Int) := by omega
 clear hx;subst hx2;have hx0 : ¬ (D : Int) < 0 := by omega
 have H0 := hid h;have HN := hid hn;have HC := hid (a3j K w.heap.size p g 32 S w (h.up hB) hl);have HP := hid (show a0b (D + 1) S = itr (a1j (a0b D)) (a27 32 S).2 (a27 32 S).1 from rfl);have hle := a7d 32 S (by omega)
 have hlen := a2P 32 S;have HFL := hid (fun S => a6x (a3i D) S)
 have hfc : ∀ (K : Nat → Prop) (B p g : Nat) (S : PS) (w : World), GRd K B p g w S → B ≤ w.heap.size → S.s.l.length ≤ 1000000 →
  Calls Tryz.prog 121 #[.pointer (some ⟨p, 0, none⟩), .int .i64 (D : Int)] w fun e w' => ∃ u b, e = .returned (a1C (a1j (a0b D) S).2.op (a1j (a0b D) S).2.kind (a1j (a0b D) S).2.fa (a1j (a0b D) S).2.a u b) ∧
  (∀ W, ExtQ (fun k => k < w.heap.size) w' W → RE W u (a1j (a0b D) S).2.ins ∧ a00 D W b (a1j (a0b D) S).2.body) ∧ GRd K B p g w' (a1j (a0b D) S).1 ∧ RX p g w w' := fun K B p g S w h1 h2 h3 => hn K B p g S w _ rfl h1 h2 h3
 have HFC := hid hfc;generalize a0b (D + 1) S = R at *;generalize a1j (a0b D) = f at *;generalize a27 32 S = cc at *;obtain ⟨S1, n0⟩ := cc;dsimp only at *;have HLE := hid (show n0 ≤ 32 by omega)
 have HL1 := hid (show S1.s.l.length ≤ 1000000 by omega)
 obtain rfl := HP.o;clear h hl hB hle hlen hfc HN hn
 go_enter Tryz.func93, Tryz.ntmps93
 go_wp2_with fail
 refine HC.o.mono ?_;rintro e w1 ⟨rfl, hg1, hx1⟩;have HG1 := hid hg1;have HX1 := hid (show RZ w.heap.size p g w w1 from hx1.mono fun i hi => hi.elim .inl fun h => .inr (.inl h))
 clear hg1 hx1
 go_wp2
 go_loopw [6, 7] (fun o iv wr => ∃ (m : Nat) (S' : PS) (acc : List Nd), iv = .int .i64 (m : Int) ∧ acc.length + m ≤ 32 ∧ S'.s.l.length ≤ 1000000 ∧ itr f n0 S1 = ((itr f m S').1, acc ++ (itr f m S').2) ∧
  OS (fun k => k < w.heap.size) 101 6 w.heap.size (NdQ (a00 D)) wr o acc ∧ GRd K w.heap.size p g wr S' ∧ RZ w.heap.size p g w wr) (fun _ iv _ => (intOf iv).toNat)
 case atStart => exact ⟨n0, S1, [], rfl, by have := HLE.o; simp; omega, HL1.o, by simp, OS.nil _ _ _ _ _ _, HG1.o, HX1.o⟩
 case round =>
 obtain ⟨m, S', acc, rfl, hlm, hl', hit, ho, hg, hx⟩ := hrel;have HLM := hid hlm;have HL' := hid hl';have HIT := hid hit;have HO := hid ho;have HG := hid hg;have HX := hid hx;obtain ⟨AO, cO, hvo⟩ := ho.form;have hm32 : m ≤ 32 := by omega
 obtain ⟨c0, c1, f1⟩ := hg.at_;clear hlm hl' hit ho hg hx
 cases m with
 | zero =>
  have HE := hid (show itr f n0 S1 = (S', acc) from by rw [HIT.o]; simp [itr])
  clear c0 c1 f1 hvo
  go_wp2
  go_ret
  refine ⟨_, rfl, fun W hW => ?_, ?_, ?_⟩
  · rw [HE.o]; exact a00.a9x (HO.o.a0Q hW (fun j hj => .inl hj) (fun g hg q => by have := (HO.o.lt hg).1; omega)).rs
  · rw [HE.o]; exact HG.o.down H0.o
  exact HX.o.a6b fun i hi hq => hq.elim .inl fun h => h.elim .inr fun h => by omega
 | succ m =>
 have q1 : ((m + 1 : Nat) : Int) > 0 := by omega
 obtain ⟨s', gb'⟩ := S';have HB := hid (a2g g s' wr HG.o.nr)
 cases gb' with
 | true =>
  have HE := hid (show itr f n0 S1 = (⟨s', true⟩, acc) from by rw [HIT.o, a7U (.inl rfl)]; simp)
  clear hvo
  go_wp2
  go_ret
  refine ⟨_, rfl, fun W hW => ?_, ?_, ?_⟩
  · rw [HE.o]; exact a00.a9x (HO.o.a0Q hW (fun j hj => .inl hj) (fun g hg q => by have := (HO.o.lt hg).1; omega)).rs
  · rw [HE.o]; exact HG.o.down H0.o
  exact HX.o.a6b fun i hi hq => hq.elim .inl fun h => h.elim .inr fun h => by omega
 | false =>
 cases hb : s'.bad with
 | true =>
  rw [hb] at HB;have HE := hid (show itr f n0 S1 = (⟨s', false⟩, acc) from by rw [HIT.o, a7U (.inr hb)]; simp)
  clear hvo
  go_wp2_with fail
  refine HB.o.mono ?_;rintro e w2 ⟨rfl, rfl⟩
  go_wp2
  go_ret
  refine ⟨_, rfl, fun W hW => ?_, ?_, ?_⟩
  · rw [HE.o]; exact a00.a9x (HO.o.a0Q hW (fun j hj => .inl hj) (fun g hg q => by have := (HO.o.lt hg).1; omega)).rs
  · rw [HE.o]; exact HG.o.down H0.o
  exact HX.o.a6b fun i hi hq => hq.elim .inl fun h => h.elim .inr fun h => by omega
 | false =>
 rw [hb] at HB;have hgo := b2S (f := f) (S := ⟨s', false⟩) (by rw [hb]; simp) m
 have HIG := hid (show itr f n0 S1 = ((itr f m (f ⟨s', false⟩).1).1, (acc ++ [(f ⟨s', false⟩).2]) ++ (itr f m (f ⟨s', false⟩).1).2) from by rw [HIT.o, hgo]; simp)
 have HCN := hid (HFC.o K w.heap.size p g ⟨s', false⟩ wr HG.o HX.o.size HL'.o);have HLN := hid (Nat.le_trans (HFL.o ⟨s', false⟩) HL'.o);clear hgo hb;generalize f ⟨s', false⟩ = fr at *;obtain ⟨SN, nd⟩ := fr;obtain ⟨xop, xins, xkind, xfa, xa, xbody⟩ := nd;dsimp only at HCN HLN HIG;simp only [Nd.op, Nd.kind, Nd.fa, Nd.a, Nd.ins, Nd.body] at HCN
 go_wp2_with fail
 refine HB.o.mono ?_;rintro e w2 ⟨rfl, rfl⟩;clear c0 c1 f1;subst hvo
 go_wp2_with fail
 refine HCN.o.mono ?_;rintro e w3 ⟨u3, b3, rfl, hst, hg3, hx3⟩;obtain ⟨A3, c3, rfl⟩ := (hst w3 (ExtQ.refl _ _)).1.form;obtain ⟨B3, d3, rfl⟩ := (hst w3 (ExtQ.refl _ _)).2.form;have HST := hid hst;have HG3 := hid hg3;have HX3 := hid (show RZ w.heap.size p g w w3 from HX.o.trans (hx3.mono fun i hi => hi.elim .inl fun h => .inr (.inl h)))
 have HLP := hid (show p < w.heap.size ∧ g < w.heap.size from ⟨hg3.lp, hg3.lg⟩);have HO3 := hid (HO.o.a0Q hx3 (fun j hj => .inl (by have := HLP.o; show j < w.heap.size; omega)) (fun g hg q => by have h1 := (HO.o.lt hg).1; have h2 : g < w.heap.size := q; omega))
 have HS3 := hid hx3.size;clear hst hg3 hx3;have hal := (Ext.refl w3).alloc (a0i xop xkind xfa xa (.slice A3 xins.length c3) (.slice B3 xbody.length d3));have HAL := hid hal;have HO4 := hid (HO3.o.ext hal);have HG4 := hid (HG3.o.ext hal);have HX4 := hid (HX3.o.trans (ExtQ.of hal));have HRD := hid (b3U w3 101 xop xkind xfa xa A3 xins.length c3 B3 xbody.length d3)
 have HQ4 := hid (fun (W : World) (hW : ExtQ (b1k (fun k => k < w.heap.size) (.slice AO acc.length cO) (w3.alloc (a0i xop xkind xfa xa (.slice A3 xins.length c3) (.slice B3 xbody.length d3)))) (w3.alloc (a0i xop xkind xfa xa (.slice A3 xins.length c3) (.slice B3 xbody.length d3))) W) =>
  show NdQ (a00 D) W [.int .i64 xop, .slice A3 xins.length c3, .int .i64 xkind, .int .i64 xfa, .int .i64 xa, .slice B3 xbody.length d3] (.mk xop xins xkind xfa xa xbody) from by
   have h5 := HST.o W (((ExtQ.of (Q := fun k => k < wr.heap.size) HAL.o).trans (hW.a6b fun i hi hq => by
    rcases hq with hq | hq | hq
    · have := HX.o.size; have hq : i < w.heap.size := hq; show i < wr.heap.size; omega
    · have := (HO.o.lt hq).2; show i < wr.heap.size; omega
    omega)))
   exact ⟨_, _, rfl, h5.1, h5.2⟩)
 clear hal
 go_wp2_with (at_builtin; refine Go.Ox.a6V rfl b2N _ _ _ rfl w.heap.size _ _ acc rfl HO4.o rfl _ (.mk xop xins xkind xfa xa xbody) HRD.o (b3V _ _ _ _ _ _ _ _ _ _) rfl HQ4.o (by have := HLM.o; omega) (by have := HLM.o; unfold maxLen; omega) HX4.o.size ?_; intro v9 w9 ho9 hg9; have HH9 := hid (And.intro ho9 hg9); clear ho9 hg9)
 have HX9 := hid (show RZ w.heap.size p g w w9 from HX4.o.trans ((ExtQ.grown (Q := fun k => (Value.slice AO acc.length cO).ownBlock = some k) HH9.o.2 fun i hi => hi).mono fun i hi => .inr (.inr (HO4.o.lt hi).1)))
 have HG9 := hid (HG4.o.a0Q ((ExtQ.grown (Q := fun k => (Value.slice AO acc.length cO).ownBlock = some k) HH9.o.2 fun i hi => hi).mono fun i hi => (HO4.o.lt hi).1))
 exact ⟨⟨m, SN, acc ++ [.mk xop xins xkind xfa xa xbody], by go_num, by have := HLM.o; simp; omega, HLN.o, HIG.o, HH9.o.1, HG9.o, HX9.o⟩, by simp [intOf]⟩
theorem a6A : ∀ (D : Nat), D ≤ 2 → a7W D
 | 0, _ => a8Q
 | D + 1, h => b28 D (by omega) (b3T D (by omega) (a6A D (by omega)))
end Go.Proofs.YtdkejfjcchlnpaaGreat
namespace Go.Ox.Gr
def b29 (r : G × Bool) : G := if r.2 = true then r.1 else ([], 0)
def b2T (r : G × Bool) : Int := if r.2 = true then 0 else 170
end Go.Ox.Gr
namespace Go.Proofs.YtdkejfjcchlnpaaGreat
open Go.RowKit Go.Ox Go.Ox.Gr
attribute [local irreducible] RE OE a00
theorem b0c (v : Value) (b : List UInt8) (w : World) (hv : RB w v b) (hl : b.length ≤ 1000000) :
 Calls Tryz.prog 58 #[v] w fun e w' => ∃ u, e = .returned (.tuple #[gAg u (b29 (b3N b)).2, .int .i64 (b2T (b3N b))]) ∧ (∀ W, ExtQ (fun k => k < w.heap.size) w' W → a00 2 W u (b29 (b3N b)).1) ∧ Ext w w' := by
 have HX0 := hid ((Ext.refl w).alloc (gCs (.slice none 0 0) 0));have HR0 := hid (Blk.new w 24 #[.slice none 0 0, .int .i64 0]);have HF := hid (b27 v b _ (hv.ext HX0.o) hl);have HL := hid hl;have HP := hid (show b3N b = (((a0b 2 ⟨⟨b, false⟩, false⟩).2, ((Num.a0l (a0b 2 ⟨⟨b, false⟩, false⟩).1.s).2 : Int)), !(a0b 2 ⟨⟨b, false⟩, false⟩).1.gb && (!(Num.a0l (a0b 2 ⟨⟨b, false⟩, false⟩).1.s).1.bad && ((Num.a0l (a0b 2 ⟨⟨b, false⟩, false⟩).1.s).1.l.isEmpty && gOk ((a0b 2 ⟨⟨b, false⟩, false⟩).2, ((Num.a0l (a0b 2 ⟨⟨b, false⟩, false⟩).1.s).2 : Int))))) from rfl);have HNL := hid (a3i 2 ⟨⟨b, false⟩, false⟩);have HC := hid (fun K B p g w h1 h2 => a6A 2 (Nat.le_refl _) K B p g ⟨⟨b, false⟩, false⟩ w 1 (by omega) h1 h2 hl)
 generalize b3N b = res at *;generalize a0b 2 ⟨⟨b, false⟩, false⟩ = R at *;obtain ⟨⟨s1, gb1⟩, L⟩ := R;dsimp only at HP HNL HC;have HN := hid (fun (K : Nat → Prop) g w (h : NR K w g s1) => a2A g s1 w h (Nat.le_trans HNL.o hl))
 generalize Num.a0l s1 = t at *;obtain ⟨s2, n⟩ := t;dsimp only at HP HN;obtain ⟨A, c, rfl⟩ := hv.form;clear hv hl
 go_enter Tryz.func58, Tryz.ntmps58
 go_upto_region 1 with fail
 obtain ⟨r, hr⟩ : ∃ r, r = w.heap.size := ⟨_, rfl⟩;rw [← hr] at HR0 ⊢;have HR := hid hr;clear hr;generalize w.alloc (gCs (.slice none 0 0) 0) = w0 at *
 go_wp2_with fail
 refine HF.o.mono ?_;rintro e w1 ⟨g, rfl, hnr, he1, hg⟩;have hal := (Ext.refl w1).alloc (.cells #[.pointer (some ⟨g, 0, none⟩), .bool false] 156)
 have HG := hid (show GRd (fun k => k < w1.heap.size) (w1.alloc (.cells #[.pointer (some ⟨g, 0, none⟩), .bool false] 156)).heap.size w1.heap.size g (w1.alloc (.cells #[.pointer (some ⟨g, 0, none⟩), .bool false] 156)) ⟨⟨b, false⟩, false⟩ from
  ⟨Blk.new _ _ _, Rdr.ext hnr hal, by have := hnr.lt; omega, by simp, by simp, by have := hnr.lt; simp; omega, fun b hb => by have hb : b < w1.heap.size := hb; simp; omega⟩)
 have HX1 := hid ((HX0.o.trans he1).alloc (.cells #[.pointer (some ⟨g, 0, none⟩), .bool false] 156));have HX0g := hid (show w.heap.size ≤ g ∧ w.heap.size ≤ w1.heap.size from ⟨Nat.le_trans HX0.o.size hg, Nat.le_trans HX0.o.size he1.size⟩);have HR1 := hid ((HR0.o.ext he1).ext hal);have HNE := hid (show r ≠ g ∧ r ≠ w1.heap.size from by have h1 := HR0.o.lt; have h2 := he1.size; exact ⟨by omega, by omega⟩)
 clear hnr he1 hg hal
 go_upto_region 2 with fail
 generalize w1.heap.size = p at *;generalize w1.alloc (.cells #[.pointer (some ⟨g, 0, none⟩), .bool false] 156) = w2 at *
 go_wp2_with fail
 refine (HC.o _ _ _ _ _ HG.o (Nat.le_refl _)).mono ?_;rintro e w3 ⟨u, rfl, hst, hg3, hx3⟩;obtain ⟨AU, cU, rfl⟩ := (hst w3 (ExtQ.refl _ _)).form;have HST := hid hst;have HX3 := hid (HX1.o.a4N hx3 (fun k hk => by have := HX0g.o; omega))
 have HR3 := hid (HR1.o.a0Q hx3 (fun e => e.elim HNE.o.2 HNE.o.1))
 have HS3 := hid hx3.size;have hal := (Ext.refl w3).alloc (gCs (.slice AU L.length cU) 0);have HQ4 := hid (Blk.new w3 24 #[.slice AU L.length cU, .int .i64 0]);have HG4 := hid (hg3.ext hal);have HX4 := hid (HX3.o.trans hal);have HR4 := hid (HR3.o.ext hal);have HAL := hid hal;have HQN := hid (show r < w3.heap.size ∧ p < w3.heap.size ∧ g < w3.heap.size from ⟨HR3.o.lt, hg3.size.1, hg3.size.2⟩);clear hst hg3 hx3 hal
 go_upto_region 3 with fail
 obtain ⟨q, hqe⟩ : ∃ q, q = w3.heap.size := ⟨_, rfl⟩;rw [← hqe] at HQ4 HQN ⊢;have HQE := hid hqe;clear hqe;generalize w3.alloc (gCs (.slice AU L.length cU) 0) = w4 at *;obtain ⟨c0, c1, f1⟩ := HG4.o.at_
 go_wp2_with fail
 refine (HN.o _ _ _ HG4.o.nr).mono ?_;rintro e w5 ⟨rfl, hr5, he5⟩;have HG5 := hid (HG4.o.num hr5 he5);have hx5 := ExtQ.a5Y (Q := fun k => k = g) he5 rfl
 have HQ5 := hid (HQ4.o.a0Q hx5 (fun e => by have := HQN.o; omega))
 have HR5 := hid (HR4.o.a0Q hx5 HNE.o.1);have HX5 := hid (HX4.o.a4N hx5 (fun k hk => by have := HX0g.o; omega))
 have HS5 := hid (show ExtQ (fun k => k < w2.heap.size) w3 w5 from (ExtQ.of HAL.o).trans (hx5.mono fun k hk => by have h1 := HG.o.size; show k < w2.heap.size; omega))
 clear hr5 he5 hx5 c0 c1 f1;obtain ⟨c0, c1, f1⟩ := HG5.o.at_;have y1 := HQ5.o.c1;have fy : w5.frozen? ⟨q, 1, none⟩ = false := HQ5.o.frozen 1;have hst : ExtQ (fun k => k = q) w5 (w5.setCell ⟨q, 1, none⟩ (.int .i64 (n : Nat))) := ExtQ.setCell (Q := fun k => k = q) (ExtQ.refl _ _) (p := ⟨q, 1, none⟩) rfl _
 have HQ6 := hid (show Blk (w5.setCell ⟨q, 1, none⟩ (.int .i64 (n : Nat))) q 24 #[.slice AU L.length cU, .int .i64 (n : Nat)] from by simpa using HQ5.o.a0U 1 (.int .i64 (n : Nat)))
 have HR6 := hid (HR5.o.a0Q hst (fun e => by have := HQN.o; omega))
 have HG6 := hid (HG5.o.a0Q (hst.mono fun k (hk : k = q) => by have h1 := HS3.o; have h2 := HQE.o; show w2.heap.size ≤ k; omega))
 have HX6 := hid (HX5.o.a4N hst (fun k hk => by have h1 := HR.o; have h2 := HQN.o; omega))
 have HS6 := hid (show ExtQ (fun k => k < w2.heap.size) w3 (w5.setCell ⟨q, 1, none⟩ (.int .i64 (n : Nat))) from ((HS5.o.mono fun k hk => Or.inl hk).trans (hst.mono fun k hk => Or.inr hk)).a6b fun k hlt (hq : k < w2.heap.size ∨ k = q) => hq.elim id fun (e : k = q) => by have := HQE.o; omega)
 have HV6 := hid (show a00 2 (w5.setCell ⟨q, 1, none⟩ (.int .i64 (n : Nat))) (.slice AU L.length cU) L from HST.o _ HS6.o);have HR2 := hid (show r < w2.heap.size from by have := HR1.o.lt; omega)
 clear hst
 go_upto_region 4 with fail
 clear c0 c1 f1 y1 fy;generalize w5.setCell ⟨q, 1, none⟩ (.int .i64 (n : Nat)) = w6 at *;obtain ⟨c0, c1, f1⟩ := HG6.o.at_;have a0 := HQ6.o.c0;have a1 := HQ6.o.c1;have HD := hid (b26 g s2 w6 HG6.o.nr);have HCK := hid (a0C 2 (.slice AU L.length cU) L (n : Nat) w6 HV6.o)
 cases gb1 with
 | true =>
  have HE1 := hid (show b29 res = ([], 0) ∧ b2T res = 170 from by rw [HP.o]; exact ⟨rfl, rfl⟩)
  have hw : ExtQ (fun k => k = r) w6 ((w6.setCell ⟨r, 0, none⟩ (.slice none 0 0)).setCell ⟨r, 1, none⟩ (.int .i64 0)) := ExtQ.setCell (Q := fun k => k = r) (ExtQ.setCell (Q := fun k => k = r) (ExtQ.refl _ _) (p := ⟨r, 0, none⟩) rfl _) (p := ⟨r, 1, none⟩) rfl _
  have HXW := hid (HX6.o.a4N hw (fun k hk => by have h1 := HR.o; omega))
  have HBW := hid (show Blk ((w6.setCell ⟨r, 0, none⟩ (.slice none 0 0)).setCell ⟨r, 1, none⟩ (.int .i64 0)) r 24 #[.slice none 0 0, .int .i64 0] from by simpa using (HR6.o.a0U 0 (.slice none 0 0)).a0U 1 (.int .i64 0))
  have k0 := HR6.o.c0;have k1 := HR6.o.c1;have j0 : w6.frozen? ⟨r, 0, none⟩ = false := HR6.o.frozen 0;have j1 : w6.frozen? ⟨r, 1, none⟩ = false := HR6.o.frozen 1;clear hw
  go_wp2
  generalize (w6.setCell ⟨r, 0, none⟩ (.slice none 0 0)).setCell ⟨r, 1, none⟩ (.int .i64 0) = wz at *;have y0 := HBW.o.c0;have y1 := HBW.o.c1
  exact bodyPost_ret (v := .tuple #[gAg (.slice none 0 0) 0, .int .i64 170]) (by simp [results, Tryz.results58, go_sem, y0, y1]) rfl
   ⟨_, by rw [HE1.o.1, HE1.o.2], by intro W _; rw [HE1.o.1]; exact a00.nil _ _, HXW.o⟩
 | false =>
 by_cases hd : s2.bad = true ∨ s2.l ≠ []
 · rw [if_pos hd] at HD
   have HBD := hid (show (!s2.bad && (s2.l.isEmpty && gOk (L, (n : Int)))) = false from by
    rcases hd with h | h
    · rw [h]; rfl
    cases hs : s2.l with
    | nil => exact absurd hs h
    | cons x y => simp)
   clear hd
   go_upto_region 5 with (refine HD.o.mono ?_; rintro e w7 ⟨rfl, rfl⟩)
   have HE1 := hid (show b29 res = ([], 0) ∧ b2T res = 170 from by rw [HP.o]; unfold b29 b2T; dsimp only; rw [HBD.o]; exact ⟨rfl, rfl⟩)
   have hw : ExtQ (fun k => k = r) w6 ((w6.setCell ⟨r, 0, none⟩ (.slice none 0 0)).setCell ⟨r, 1, none⟩ (.int .i64 0)) := ExtQ.setCell (Q := fun k => k = r) (ExtQ.setCell (Q := fun k => k = r) (ExtQ.refl _ _) (p := ⟨r, 0, none⟩) rfl _) (p := ⟨r, 1, none⟩) rfl _
   have HXW := hid (HX6.o.a4N hw (fun k hk => by have h1 := HR.o; omega))
   have HBW := hid (show Blk ((w6.setCell ⟨r, 0, none⟩ (.slice none 0 0)).setCell ⟨r, 1, none⟩ (.int .i64 0)) r 24 #[.slice none 0 0, .int .i64 0] from by simpa using (HR6.o.a0U 0 (.slice none 0 0)).a0U 1 (.int .i64 0))
   have k0 := HR6.o.c0;have k1 := HR6.o.c1;have j0 : w6.frozen? ⟨r, 0, none⟩ = false := HR6.o.frozen 0;have j1 : w6.frozen? ⟨r, 1, none⟩ = false := HR6.o.frozen 1;clear hw
   go_wp2
   generalize (w6.setCell ⟨r, 0, none⟩ (.slice none 0 0)).setCell ⟨r, 1, none⟩ (.int .i64 0) = wz at *;have y0 := HBW.o.c0;have y1 := HBW.o.c1
   exact bodyPost_ret (v := .tuple #[gAg (.slice none 0 0) 0, .int .i64 170]) (by simp [results, Tryz.results58, go_sem, y0, y1]) rfl
    ⟨_, by rw [HE1.o.1, HE1.o.2], by intro W _; rw [HE1.o.1]; exact a00.nil _ _, HXW.o⟩
 rw [if_neg hd] at HD
 have HBE := hid (show s2.bad = false ∧ s2.l.isEmpty = true from ⟨by cases h : s2.bad with
  | true => exact absurd (.inl h) hd
  | false => rfl, by cases h : s2.l with
  | nil => rfl
  | cons x y => exact absurd (.inr (by rw [h]; simp)) hd⟩)
 have HGE := hid (show gE (L, (n : Int)) = if gOk (L, (n : Int)) = true then 0 else 170 from rfl)
 clear hd
 cases hok : gOk (L, (n : Int)) with
 | false =>
  rw [show gE (L, ((n : Nat) : Int)) = 170 from by rw [HGE.o, hok]; rfl] at HCK
  have HOK := hid hok;clear hok
  go_wp2_with fail
  refine HD.o.mono ?_;rintro e w7 ⟨rfl, rfl⟩
  go_wp2_with fail
  refine HCK.o.mono ?_;rintro e w7 ⟨rfl, he7⟩;have HX7 := hid (HX6.o.trans he7);have HR7 := hid (HR6.o.ext he7);clear he7;have HE1 := hid (show b29 res = ([], 0) ∧ b2T res = 170 from by rw [HP.o]; unfold b29 b2T; dsimp only; rw [HOK.o, Bool.and_false, Bool.and_false, Bool.and_false]; exact ⟨rfl, rfl⟩)
  have hw : ExtQ (fun k => k = r) w7 ((w7.setCell ⟨r, 0, none⟩ (.slice none 0 0)).setCell ⟨r, 1, none⟩ (.int .i64 0)) := ExtQ.setCell (Q := fun k => k = r) (ExtQ.setCell (Q := fun k => k = r) (ExtQ.refl _ _) (p := ⟨r, 0, none⟩) rfl _) (p := ⟨r, 1, none⟩) rfl _
  have HXW := hid (HX7.o.a4N hw (fun k hk => by have h1 := HR.o; omega))
  have HBW := hid (show Blk ((w7.setCell ⟨r, 0, none⟩ (.slice none 0 0)).setCell ⟨r, 1, none⟩ (.int .i64 0)) r 24 #[.slice none 0 0, .int .i64 0] from by simpa using (HR7.o.a0U 0 (.slice none 0 0)).a0U 1 (.int .i64 0))
  have k0 := HR7.o.c0;have k1 := HR7.o.c1;have j0 : w7.frozen? ⟨r, 0, none⟩ = false := HR7.o.frozen 0;have j1 : w7.frozen? ⟨r, 1, none⟩ = false := HR7.o.frozen 1;clear hw
  go_wp2
  generalize (w7.setCell ⟨r, 0, none⟩ (.slice none 0 0)).setCell ⟨r, 1, none⟩ (.int .i64 0) = wz at *;have y0 := HBW.o.c0;have y1 := HBW.o.c1
  exact bodyPost_ret (v := .tuple #[gAg (.slice none 0 0) 0, .int .i64 170]) (by simp [results, Tryz.results58, go_sem, y0, y1]) rfl
   ⟨_, by rw [HE1.o.1, HE1.o.2], by intro W _; rw [HE1.o.1]; exact a00.nil _ _, HXW.o⟩
 | true =>
 rw [show gE (L, ((n : Nat) : Int)) = 0 from by rw [HGE.o, hok]; rfl] at HCK
 have HOK := hid hok;clear hok
 go_wp2_with fail
 refine HD.o.mono ?_;rintro e w7 ⟨rfl, rfl⟩
 go_wp2_with fail
 refine HCK.o.mono ?_;rintro e w7 ⟨rfl, he7⟩;have HX7 := hid (HX6.o.trans he7);have HR7 := hid (HR6.o.ext he7);have HQ7 := hid (HQ6.o.ext he7);have HS7 := hid (HS6.o.trans (ExtQ.of he7));clear he7;have HE1 := hid (show b29 res = (L, (n : Int)) ∧ b2T res = 0 from by rw [HP.o]; unfold b29 b2T; dsimp only; rw [HOK.o, HBE.o.1, HBE.o.2]; exact ⟨rfl, rfl⟩)
 have hw : ExtQ (fun k => k = r) w7 ((w7.setCell ⟨r, 0, none⟩ (.slice AU L.length cU)).setCell ⟨r, 1, none⟩ (.int .i64 (n : Nat))) := ExtQ.setCell (Q := fun k => k = r) (ExtQ.setCell (Q := fun k => k = r) (ExtQ.refl _ _) (p := ⟨r, 0, none⟩) rfl _) (p := ⟨r, 1, none⟩) rfl _
 have HXW := hid (HX7.o.a4N hw (fun k hk => by have h1 := HR.o; omega))
 have HVW := hid (show ∀ W, ExtQ (fun k => k < w.heap.size) ((w7.setCell ⟨r, 0, none⟩ (.slice AU L.length cU)).setCell ⟨r, 1, none⟩ (.int .i64 (n : Nat))) W → a00 2 W (.slice AU L.length cU) L from fun W hW => HST.o _ ((HS7.o.trans (hw.mono fun k (hk : k = r) => by have := HR2.o; show k < w2.heap.size; omega)).trans (hW.mono fun k (hk : k < w.heap.size) => by have h1 := HR.o; have h2 := HR2.o; show k < w2.heap.size; omega)))
 have HBW := hid (show Blk ((w7.setCell ⟨r, 0, none⟩ (.slice AU L.length cU)).setCell ⟨r, 1, none⟩ (.int .i64 (n : Nat))) r 24 #[.slice AU L.length cU, .int .i64 (n : Nat)] from by simpa using (HR7.o.a0U 0 (.slice AU L.length cU)).a0U 1 (.int .i64 (n : Nat)))
 have k0 := HR7.o.c0;have k1 := HR7.o.c1;have j0 : w7.frozen? ⟨r, 0, none⟩ = false := HR7.o.frozen 0;have j1 : w7.frozen? ⟨r, 1, none⟩ = false := HR7.o.frozen 1;have m0 := HQ7.o.c0;have m1 := HQ7.o.c1;clear hw c0 c1 f1 a0 a1
 go_wp2
 generalize (w7.setCell ⟨r, 0, none⟩ (.slice AU L.length cU)).setCell ⟨r, 1, none⟩ (.int .i64 (n : Nat)) = wz at *;have y0 := HBW.o.c0;have y1 := HBW.o.c1
 exact bodyPost_ret (v := .tuple #[gAg (.slice AU L.length cU) (n : Nat), .int .i64 0]) (by simp [results, Tryz.results58, go_sem, y0, y1]) rfl
  ⟨_, by rw [HE1.o.1, HE1.o.2], by rw [HE1.o.1]; exact HVW.o, HXW.o⟩
end Go.Proofs.YtdkejfjcchlnpaaGreat
