/-
  GrNodeAt, packed: what the claim needs of them.
-/
import Derived.Test.YtdkejfjcchlnpaaGreatFn15
import Derived.Test.YtdkejfjcchlnpaaGreatFn16
set_option maxHeartbeats 40000000
open Go.Lib (hid)
set_option linter.unusedSimpArgs false
set_option linter.unusedVariables false
set_option maxRecDepth 100000
namespace Go.Proofs.YtdkejfjcchlnpaaGreat
open Go.RowKit Go.Ox Go.Ox.Gr
attribute [local irreducible] RE OE a00
theorem elemI : Elem Tryz.prog 97 3 (.int .i64 0) 1 8 := Elem.mk' Tryz.underlying97 (by kernel_rfl) rfl (by omega)
theorem b2N : Elem Tryz.prog 22 101 (.agg #[.int .i64 0, .slice none 0 0, .int .i64 0, .int .i64 0, .int .i64 0, .slice none 0 0]) 6 80 := Elem.mk' Tryz.underlying22 (by kernel_rfl) rfl (by omega)
theorem b3A (w : World) (A : Option Addr) (n c n' c' : Nat) : (binOp .eql 97 (.slice A n c) (.slice none n' c')).run Tryz.prog w = .ok (.bool A.isNone) w :=
 Lib.run_eql_slice_nil (P := Tryz.prog) w 97 3 A n c n' c' Tryz.underlying97
theorem a52 (v : Value) (l : List Int) (w : World) (hb : RE w v l) (hl : l.length ≤ 1000000000) :
 Calls Tryz.prog 135 #[v] w fun e w' => ∃ v', e = .returned v' ∧ OE 3 w.heap.size w' v' l ∧ Ext w w' := by
 have HB := hid hb;obtain ⟨A, c, rfl⟩ := hb.form;have hnc := hb.nc;have he := b3A;have HE := he
 cases A with
 | none =>
  have hrd := hb.rd;obtain ⟨A', c', he', hrd⟩ := hrd;injection he' with e1 e2 e3
  subst e1 e3;have h0 := hrd.nil rfl;have hn : l.length = 0 := by omega
  obtain rfl := List.eq_nil_of_length_eq_zero hn;subst h0;clear hrd hn hnc
  go_enter Tryz.func135, Tryz.ntmps135
  go_wp2
  go_ret
  exact ⟨_, rfl, OE.a2F _ _ _, Ext.refl _⟩
 | some ad =>
 clear hb hnc
 have hown : (w.alloc (.cells #[] 3)).ownsRow w.heap.size 3 1 (.slice (some ⟨w.heap.size, 0, none⟩) 0 0) 0 [] :=
  World.ownsRow_lit w #[] 0 (Nat.le_refl _) (by unfold maxLen; omega) rfl
 have HO := hid hown;clear hown
 go_enter Tryz.func135, Tryz.ntmps135
 go_wp2_with (at_builtin; refine a0J rfl elemI _ _ _ rfl w.heap.size _ 0 [] rfl HO.o _ l.length (eV l) rfl (RE.rd (HB.o.ext ((Ext.refl _).alloc _))) (a7A l) (by omega) (by unfold maxLen; omega) (by simp) ?_; intro v' w' ha)
 go_ret
 exact ⟨_, rfl, OE.of0 ha.own, ha.ext ((Ext.refl _).alloc _) rfl HO.o⟩
theorem Bx6.fill {w : World} {q : Nat} {T : TypeId} {a0 a1 a2 a3 a4 a5 : Value} (h : Bx6 w q T a0 a1 a2 a3 a4 a5) (v0 v1 v2 v3 v4 v5 : Value) :
 Bx6 ((((((w.setCell ⟨q, 0, none⟩ v0).setCell ⟨q, 1, none⟩ v1).setCell ⟨q, 2, none⟩ v2).setCell ⟨q, 3, none⟩ v3).setCell ⟨q, 4, none⟩ v4).setCell ⟨q, 5, none⟩ v5) q T v0 v1 v2 v3 v4 v5 :=
 ⟨by simpa using (((((h.b.a0U 0 v0).a0U 1 v1).a0U 2 v2).a0U 3 v3).a0U 4 v4).a0U 5 v5⟩
theorem Bx6.off {w : World} {p q i : Nat} {T : TypeId} {a0 a1 a2 a3 a4 a5 : Value} (h : Bx6 w q T a0 a1 a2 a3 a4 a5) (hne : p ≠ q) (v : Value) : Bx6 (w.setCell ⟨p, i, none⟩ v) q T a0 a1 a2 a3 a4 a5 :=
 ⟨h.b.a0Q (ExtQ.setCell (Q := fun k => k = p) (ExtQ.refl _ _) (p := ⟨p, i, none⟩) rfl v) fun e => hne e.symm⟩
theorem a6Y {Q : Nat → Prop} {w0 w : World} {q : Nat} (h : ExtQ Q w0 w) (hq : Q q) (v0 v1 v2 v3 v4 v5 : Value) :
 ExtQ Q w0 ((((((w.setCell ⟨q, 0, none⟩ v0).setCell ⟨q, 1, none⟩ v1).setCell ⟨q, 2, none⟩ v2).setCell ⟨q, 3, none⟩ v3).setCell ⟨q, 4, none⟩ v4).setCell ⟨q, 5, none⟩ v5) :=
 ExtQ.setCell (ExtQ.setCell (ExtQ.setCell (ExtQ.setCell (ExtQ.setCell (ExtQ.setCell h (p := ⟨q, 0, none⟩) hq v0) (p := ⟨q, 1, none⟩) hq v1) (p := ⟨q, 2, none⟩) hq v2) (p := ⟨q, 3, none⟩) hq v3) (p := ⟨q, 4, none⟩) hq v4) (p := ⟨q, 5, none⟩) hq v5
theorem a56 (op kind fa a : Int) (u b : Value) (ins : List Int) (d : Nat) (w : World) (hu : RE w u ins) (hb : a00 d w b []) (hl : ins.length ≤ 1000000) :
 Calls Tryz.prog 100 #[a1C op kind fa a u b] w fun e w' => ∃ u', e = .returned (a1C op kind fa a u' (.slice none 0 0)) ∧ OE 3 w.heap.size w' u' ins ∧ Ext w w' := by
 have HX0 := hid (((Ext.refl w).alloc (a0i op kind fa a u b)).alloc (a0i 0 0 0 0 (.slice none 0 0) (.slice none 0 0)));have HB0 := hid ((Bx6.new w 101 (.int .i64 op) u (.int .i64 kind) (.int .i64 fa) (.int .i64 a) b).ext ((Ext.refl _).alloc (a0i 0 0 0 0 (.slice none 0 0) (.slice none 0 0))));have HC0 := hid (Bx6.new (w.alloc (a0i op kind fa a u b)) 101 (.int .i64 0) (.slice none 0 0) (.int .i64 0) (.int .i64 0) (.int .i64 0) (.slice none 0 0));have HCL := hid (fun w h => a52 u ins w h (by omega))
 have HU := hid (hu.ext HX0.o);obtain ⟨Au, cu, rfl⟩ := hu.form;obtain ⟨Ab, cb, rfl⟩ : ∃ A c, b = .slice A 0 c := hb.form;clear hu hb
 go_enter Tryz.func100, Tryz.ntmps100
 go_upto_region 1 with fail
 obtain ⟨p, hp⟩ : ∃ p, p = w.heap.size := ⟨_, rfl⟩;have hq : (w.alloc (a0i op kind fa a (.slice Au ins.length cu) (.slice Ab 0 cb))).heap.size = p + 1 := by rw [hp]; simp
 rw [hq] at HC0;rw [← hp] at HB0 ⊢;have HP := hid hp;clear hp hq;generalize (w.alloc (a0i op kind fa a (.slice Au ins.length cu) (.slice Ab 0 cb))).alloc (a0i 0 0 0 0 (.slice none 0 0) (.slice none 0 0)) = w0 at *;obtain ⟨c0, c1, c2, c3, c4, c5⟩ := HB0.o.at_
 go_wp2_with fail
 refine (HCL.o _ HU.o).mono ?_;rintro e w1 ⟨u', rfl, ho1, he1⟩;have HX1 := hid (HX0.o.trans he1);have HB1 := hid (HB0.o.ext he1);have HC1 := hid (HC0.o.ext he1);have HO1 := hid ho1;have HS0 := hid (show p + 1 < w0.heap.size from HC0.o.b.lt);obtain ⟨A1, c1', rfl⟩ := ho1.re.form;clear ho1 he1 c0 c1 c2 c3 c4 c5;obtain ⟨c0, c1, c2, c3, c4, c5⟩ := HB1.o.at_;obtain ⟨d0, d1, d2, d3, d4, d5⟩ := HC1.o.at_;have f1 : w1.frozen? ⟨p, 1, none⟩ = false := HB1.o.b.frozen 1;have f5 : w1.frozen? ⟨p, 5, none⟩ = false := HB1.o.b.frozen 5;have j0 : w1.frozen? ⟨p + 1, 0, none⟩ = false := HC1.o.b.frozen 0;have j1 : w1.frozen? ⟨p + 1, 1, none⟩ = false := HC1.o.b.frozen 1;have j2 : w1.frozen? ⟨p + 1, 2, none⟩ = false := HC1.o.b.frozen 2;have j3 : w1.frozen? ⟨p + 1, 3, none⟩ = false := HC1.o.b.frozen 3;have j4 : w1.frozen? ⟨p + 1, 4, none⟩ = false := HC1.o.b.frozen 4;have j5 : w1.frozen? ⟨p + 1, 5, none⟩ = false := HC1.o.b.frozen 5
 go_wp2
 go_loopw [15] (fun iv wr => iv = .int .i64 0 ∧ wr = (w1.setCell ⟨p, 1, none⟩ (.slice A1 ins.length c1')).setCell ⟨p, 5, none⟩ (.slice none 0 0)) (fun _ _ => 0)
 case atStart => exact ⟨rfl, rfl⟩
 case round =>
 obtain ⟨rfl, rfl⟩ := hrel;have HF := hid ((((HC1.o.off (p := p) (i := 1) (by omega) (.slice A1 ins.length c1')).off (p := p) (i := 5) (by omega) (.slice none 0 0))).fill (.int .i64 op) (.slice A1 ins.length c1') (.int .i64 kind) (.int .i64 fa) (.int .i64 a) (.slice none 0 0))
 have hx : ExtQ (fun k => k = p ∨ k = p + 1) w1 _ := a6Y (ExtQ.setCell (ExtQ.setCell (Q := fun k => k = p ∨ k = p + 1) (ExtQ.refl _ _) (p := ⟨p, 1, none⟩) (.inl rfl) (.slice A1 ins.length c1')) (p := ⟨p, 5, none⟩) (.inl rfl) (.slice none 0 0)) (q := p + 1) (.inr rfl) (.int .i64 op) (.slice A1 ins.length c1') (.int .i64 kind) (.int .i64 fa) (.int .i64 a) (.slice none 0 0)
 have HXQ := hid hx;clear hx
 go_wp2
 generalize (((((((w1.setCell ⟨p, 1, none⟩ (.slice A1 ins.length c1')).setCell ⟨p, 5, none⟩ (.slice none 0 0)).setCell ⟨p + 1, 0, none⟩ (.int .i64 op)).setCell ⟨p + 1, 1, none⟩ (.slice A1 ins.length c1')).setCell ⟨p + 1, 2, none⟩ (.int .i64 kind)).setCell ⟨p + 1, 3, none⟩ (.int .i64 fa)).setCell ⟨p + 1, 4, none⟩ (.int .i64 a)).setCell ⟨p + 1, 5, none⟩ (.slice none 0 0) = wz at *;obtain ⟨y0, y1, y2, y3, y4, y5⟩ := HF.o.at_
 exact bodyPost_ret (v := a1C op kind fa a (.slice A1 ins.length c1') (.slice none 0 0)) (by simp [results, Tryz.results100, go_sem, y0, y1, y2, y3, y4, y5]) rfl
  ⟨_, rfl, (OE.mk (a0a HO1.o.own HXQ.o (fun k hk q => by have h1 := HO1.o.lt hk; have h2 := HS0.o; omega))).low (by have h1 := HP.o; have h2 := HS0.o; omega), HX1.o.a4N HXQ.o (fun k hk => by have h1 := HP.o; omega)⟩
end Go.Proofs.YtdkejfjcchlnpaaGreat
namespace Go.Proofs.YtdkejfjcchlnpaaGreat
open Go.RowKit Go.Ox Go.Ox.Gr
attribute [local irreducible] RE OE a00
theorem b1Q {w W : World} {K : Nat → Prop} {B : Nat} {op kind fa a : Int} {u : Value} {ins : List Int} (ho : OE 3 B w u ins) (hW : ExtQ K w W) (hK : ∀ g, B ≤ g → g < w.heap.size → ¬ K g) :
 NdQ (a00 0) W [.int .i64 op, u, .int .i64 kind, .int .i64 fa, .int .i64 a, .slice none 0 0] (.mk op ins kind fa a []) :=
 ⟨u, .slice none 0 0, rfl, (OE.mk (a0a ho.own hW fun g hg q => hK g (ho.lt hg).1 (ho.lt hg).2 q)).re, a00.nil 0 W⟩
theorem nd_lit (w : World) (E : TypeId) (op kind fa a : Int) (A : Option Addr) (n c : Nat) :
 Rd (w.alloc (.cells #[.int .i64 op, .slice A n c, .int .i64 kind, .int .i64 fa, .int .i64 a, .slice none 0 0] E)) 6 (.slice (some ⟨w.heap.size, 0, none⟩) 1 1) 1 [.int .i64 op, .slice A n c, .int .i64 kind, .int .i64 fa, .int .i64 a, .slice none 0 0] :=
 Rd.a3t (base := w.heap.size) (World.ownsRow_lit w #[.int .i64 op, .slice A n c, .int .i64 kind, .int .i64 fa, .int .i64 a, .slice none 0 0] 1 (Nat.le_refl _) (by unfold maxLen; omega) rfl)
theorem nd_one (op kind fa a : Int) (A : Option Addr) (n c : Nat) : ∀ u ∈ ([.int .i64 op, .slice A n c, .int .i64 kind, .int .i64 fa, .int .i64 a, .slice none 0 0] : List Value), u.oneCell' = true := by
 intro u hu;simp at hu
 rcases hu with rfl | rfl | rfl | rfl | rfl | rfl <;> rfl
theorem a8E (op kind fa a : Int) (u b : Value) (ins : List Int) (body : List Nd) (d : Nat) (w : World) (hu : RE w u ins) (hb : a00 d w b body) (hl : ins.length ≤ 1000000) (hbl : body.length ≤ 1000)
 (hbb : ∀ n ∈ body, n.body = [] ∧ n.ins.length ≤ 1000000) :
 Calls Tryz.prog 100 #[a1C op kind fa a u b] w fun e w' => ∃ u' b', e = .returned (a1C op kind fa a u' b') ∧ (∀ W, ExtQ (fun k => k < w.heap.size) w' W → RE W u' ins ∧ a00 1 W b' body) ∧ Ext w w' := by
 have HX0 := hid (((Ext.refl w).alloc (a0i op kind fa a u b)).alloc (a0i 0 0 0 0 (.slice none 0 0) (.slice none 0 0)));have HB0 := hid ((Bx6.new w 101 (.int .i64 op) u (.int .i64 kind) (.int .i64 fa) (.int .i64 a) b).ext ((Ext.refl _).alloc (a0i 0 0 0 0 (.slice none 0 0) (.slice none 0 0))));have HC0 := hid (Bx6.new (w.alloc (a0i op kind fa a u b)) 101 (.int .i64 0) (.slice none 0 0) (.int .i64 0) (.int .i64 0) (.int .i64 0) (.slice none 0 0));have HCL := hid (fun w h => a52 u ins w h (by omega))
 have HU := hid (hu.ext HX0.o);have HV := hid hb;have HBL := hid hbl;have HBB := hid (fun (k : Nat) (h : k < body.length) => hbb body[k] (List.getElem_mem h))
 obtain ⟨Au, cu, rfl⟩ := hu.form;obtain ⟨Ab, cb, rfl⟩ := hb.form;clear hu hb hbl hbb
 go_enter Tryz.func100, Tryz.ntmps100
 go_upto_region 1 with fail
 obtain ⟨p, hp⟩ : ∃ p, p = w.heap.size := ⟨_, rfl⟩;have hq : (w.alloc (a0i op kind fa a (.slice Au ins.length cu) (.slice Ab body.length cb))).heap.size = p + 1 := by rw [hp]; simp
 rw [hq] at HC0;rw [← hp] at HB0 ⊢;have HP := hid hp;clear hp hq;generalize (w.alloc (a0i op kind fa a (.slice Au ins.length cu) (.slice Ab body.length cb))).alloc (a0i 0 0 0 0 (.slice none 0 0) (.slice none 0 0)) = w0 at *;obtain ⟨c0, c1, c2, c3, c4, c5⟩ := HB0.o.at_
 go_wp2_with fail
 refine (HCL.o _ HU.o).mono ?_;rintro e w1 ⟨u', rfl, ho1, he1⟩;have HX1 := hid (HX0.o.trans he1);have HB1 := hid (HB0.o.ext he1);have HC1 := hid (HC0.o.ext he1);have HO1 := hid ho1;have HS0 := hid (show p + 1 < w0.heap.size from HC0.o.b.lt);obtain ⟨A1, c1', rfl⟩ := ho1.re.form;clear ho1 he1 c0 c1 c2 c3 c4 c5;obtain ⟨c0, c1, c2, c3, c4, c5⟩ := HB1.o.at_;have f1 : w1.frozen? ⟨p, 1, none⟩ = false := HB1.o.b.frozen 1;have f5 : w1.frozen? ⟨p, 5, none⟩ = false := HB1.o.b.frozen 5;have HB2 := hid (show Bx6 ((w1.setCell ⟨p, 1, none⟩ (.slice A1 ins.length c1')).setCell ⟨p, 5, none⟩ (.slice none 0 0)) p 101 (.int .i64 op) (.slice A1 ins.length c1') (.int .i64 kind) (.int .i64 fa) (.int .i64 a) (.slice none 0 0) from ⟨by simpa using (HB1.o.b.a0U 1 (.slice A1 ins.length c1')).a0U 5 (.slice none 0 0)⟩)
 have HC2 := hid ((HC1.o.off (p := p) (i := 1) (by omega) (.slice A1 ins.length c1')).off (p := p) (i := 5) (by omega) (.slice none 0 0))
 have hx2 : ExtQ (fun k => k = p) w1 ((w1.setCell ⟨p, 1, none⟩ (.slice A1 ins.length c1')).setCell ⟨p, 5, none⟩ (.slice none 0 0)) := ExtQ.setCell (ExtQ.setCell (Q := fun k => k = p) (ExtQ.refl _ _) (p := ⟨p, 1, none⟩) rfl _) (p := ⟨p, 5, none⟩) rfl _
 have HO2 := hid (OE.mk (a0a HO1.o.own hx2 (fun k hk q => by have h1 := HO1.o.lt hk; have h2 := HS0.o; omega)))
 have HX2 := hid (HX1.o.a4N hx2 (fun k hk => by have h1 := HP.o; omega))
 clear hx2
 go_upto_region 4 with fail
 clear c0 c1 c2 c3 c4 c5 f1 f5;generalize (w1.setCell ⟨p, 1, none⟩ (.slice A1 ins.length c1')).setCell ⟨p, 5, none⟩ (.slice none 0 0) = w2 at *;have HSZ2 := hid (show p + 1 < w2.heap.size from HC2.o.b.lt)
 go_wp2
 go_loopw [15] (fun iv wr => ∃ k : Nat, k ≤ body.length ∧ iv = .int .i64 (k : Int) ∧ (∃ bv, Bx6 wr p 101 (.int .i64 op) (.slice A1 ins.length c1') (.int .i64 kind) (.int .i64 fa) (.int .i64 a) bv ∧ OS (fun k => k ≤ p + 1) 101 6 w2.heap.size (NdQ (a00 0)) wr bv (body.take k)) ∧ ExtQ (fun k => k = p ∨ w2.heap.size ≤ k) w2 wr) (fun iv _ => body.length - (intOf iv).toNat)
 case atStart => exact ⟨0, Nat.zero_le _, rfl, ⟨_, HB2.o, OS.nil _ _ _ _ _ _⟩, ExtQ.refl _ _⟩
 case round =>
 obtain ⟨k, hk, rfl, ⟨bv, hbx, hos⟩, hext⟩ := hrel;have HE := hid hext;have HBX := hid hbx;have HOS := hid hos;have hk1000 : k ≤ 1000 := by have := HBL.o; omega
 have hxw := HX2.o.a4N hext (fun k hk => by have h1 := HP.o; have h2 := HSZ2.o; omega)
 have HXW := hid hxw;obtain ⟨b0, b1, b2, b3, b4, b5⟩ := hbx.at_
 by_cases hlt : k < body.length
 · have q1 : (k : Int) < (body.length : Int) := by omega
   have q0 : 0 ≤ (k : Int) := by omega
   have q1n : k < body.length := hlt;have HLT := hid hlt;obtain ⟨bA, oA, xu, xb, rfl, e0, e1, e2, e3, e4, e5, hxu, hxb⟩ := (HV.o.ext hxw).at_ hlt;obtain ⟨hb0, hb1⟩ := HBB.o k hlt;have HS := hid (List.take_succ_eq_append_getElem hlt);have htl : (body.take k).length = k := by rw [List.length_take]; omega
   generalize body[k] = x at *;obtain ⟨xop, xins, xkind, xfa, xa, xbody⟩ := x;simp only [Nd.op, Nd.kind, Nd.fa, Nd.a, Nd.ins, Nd.body] at e0 e1 e2 e3 e4 e5 hxu hxb hb0 hb1;subst hb0;generalize body.take k = bt at *;obtain ⟨Aq, cq, rfl⟩ := hxu.form;obtain ⟨Aw, cw, rfl⟩ : ∃ A c, xb = .slice A 0 c := hxb.form;obtain ⟨AO, cO, rfl⟩ := hos.form;rw [htl] at hbx HBX HOS hos b5;have HTL := hid htl;have hxn := (Ext.refl wr).alloc (a0i xop xkind xfa xa (.slice Aq xins.length cq) (.slice Aw 0 cw));have HXN := hid hxn;have HBN := hid (hbx.ext hxn);have HON := hid (hos.ext hxn);have HNB := hid (Bx6.new wr 101 (.int .i64 xop) (.slice Aq xins.length cq) (.int .i64 xkind) (.int .i64 xfa) (.int .i64 xa) (.slice Aw 0 cw));have HXU := hid (hxu.ext hxn);have HXB := hid (hxb.ext hxn);have HC0X := hid (fun w h1 h2 => a56 xop xkind xfa xa (.slice Aq xins.length cq) (.slice Aw 0 cw) xins (d - 1) w h1 h2 hb1)
   have HEN := hid (hext.trans (ExtQ.of hxn));clear hbx hos hxu hxb hxn hext hlt hk htl b0 b1 b2 b3 b4 b5
   go_upto_region 7 with fail
   clear e0 e1 e2 e3 e4 e5;generalize wr.heap.size = q at *;generalize wr.alloc (a0i xop xkind xfa xa (.slice Aq xins.length cq) (.slice Aw 0 cw)) = wn at *;obtain ⟨b0, b1, b2, b3, b4, b5⟩ := HBN.o.at_;obtain ⟨y0, y1, y2, y3, y4, y5⟩ := HNB.o.at_;have HSN := hid (show w2.heap.size ≤ wn.heap.size from HEN.o.size)
   have HMK := hid (fun (W : World) (g : Nat) (hg1 : wn.heap.size ≤ g) (hg2 : g < W.heap.size) (hq : b1k (fun k => k ≤ p + 1) (.slice AO k cO) W g) => show False by
    have h1 := HSN.o;have h2 := HSZ2.o
    rcases hq with hq | hq | hq
    · omega
    · exact absurd (HON.o.lt hq).2 (by omega)
    omega)
   refine a1r 7 [24] [20, 21, 22, 23] Ext (fun a b => a.grownBy b (Value.ownBlock (.slice AO k cO))) (Ext _) (by kernel_rfl) (by kernel_rfl) (by kernel_rfl) (by kernel_rfl) (by kernel_rfl) (by kernel_rfl) (by kernel_rfl) (by rfl) (by rfl) (by kernel_rfl) (by kernel_rfl) (by kernel_rfl) (fun _ _ _ x y => x.trans y) (fun _ => World.grownBy.refl _ _) (fun _ _ x => ⟨x.os, x.tape, x.output, x.size, fun _ hk _ => x.block hk⟩) Ext.refl (Ext.refl _).drew (fun _ _ x y => x.trans y) (Ext.refl _) ?_
   repeat (first | (refine a0I rfl rfl (fun _ => (a05 rfl)) Ext.refl rfl rfl (fun _ => rfl) ?_; apply Exists.intro; refine ⟨?_, ?_⟩; · (go_simp; rfl)) | (refine a0M rfl rfl (fun _ => (a05 rfl)) Ext.refl rfl ?_; apply Exists.intro; refine ⟨?_, ?_⟩; · (intro c a w' hR; (try (intro h1; try have e1 : _ = _ := h1)); (try (intro h2; try have e2 : _ = _ := h2)); (try (intro h3; try have e3 : _ = _ := h3)); go_simp; rfl)))
   refine a2e (fun c v _ => v = .slice AO k cO) rfl rfl (a05 rfl) rfl (a1U) ?_ ?_
   · intro a w' hR hS h1 K hK
     have e1 : _ = _ := h1;have hl := (show Ext wn w' from hS).cell b5;go_simp;exact hK _ _ (Ext.refl _) rfl
   refine a2e (fun c v _ => v = a1C xop xkind xfa xa (.slice Aq xins.length cq) (.slice Aw 0 cw)) rfl rfl (a05 rfl) rfl (a1U) ?_ ?_
   · intro a w' hR hS h1 K hK
     have e1 : _ = _ := h1;have hl0 := (show Ext wn w' from hS).cell y0;have hl1 := (show Ext wn w' from hS).cell y1;have hl2 := (show Ext wn w' from hS).cell y2;have hl3 := (show Ext wn w' from hS).cell y3;have hl4 := (show Ext wn w' from hS).cell y4;have hl5 := (show Ext wn w' from hS).cell y5;go_simp;exact hK _ _ (Ext.refl _) rfl
   refine a2e (fun c v w => c ≤ 0 → ∃ A9 c9, v = a1C xop xkind xfa xa (.slice A9 xins.length c9) (.slice none 0 0) ∧ OE 3 wn.heap.size w (.slice A9 xins.length c9) xins) rfl rfl (a05 rfl) rfl (a9O fun _ _ _ ⟨A9, c9, h1, h2⟩ k => ⟨A9, c9, h1, OE.ext h2 k⟩) ?_ ?_
   · intro a w' hR hS h1 K hK
     have e1 : _ = _ := h1;go_simp;refine (HC0X.o w' (HXU.o.ext (show Ext wn w' from hS)) (HXB.o.ext (show Ext wn w' from hS))).mono ?_;rintro e w3 ⟨u9, rfl, ho9, he9⟩;obtain ⟨A9, c9, rfl⟩ := ho9.re.form;exact hK _ _ he9 fun _ => ⟨A9, c9, rfl, ho9.low (show Ext wn w' from hS).size⟩
   refine a2e (fun c v w => c ≤ 0 → ∃ A9 c9, Rd w 6 v 1 [.int .i64 xop, .slice A9 xins.length c9, .int .i64 xkind, .int .i64 xfa, .int .i64 xa, .slice none 0 0] ∧ OE 3 wn.heap.size w (.slice A9 xins.length c9) xins) rfl rfl (a05 rfl) rfl (a9O fun _ _ _ ⟨A9, c9, h1, h2⟩ k => ⟨A9, c9, Rd.ext h1 k, OE.ext h2 k⟩) ?_ ?_
   · intro a w' hR hS h1 K hK
     obtain ⟨x, ex, fx⟩ : ∃ x, a.tmps.getD 22 undef = x ∧ (fun v w => 0 ≤ 0 → ∃ A9 c9, v = a1C xop xkind xfa xa (.slice A9 xins.length c9) (.slice none 0 0) ∧ OE 3 wn.heap.size w (.slice A9 xins.length c9) xins) x w' := ⟨_, rfl, h1⟩
     obtain ⟨A9, c9, hx9, ho9⟩ := fx (Nat.le_refl _);subst hx9;have q9 : a.tmps[22]?.getD undef = a1C xop xkind xfa xa (.slice A9 xins.length c9) (.slice none 0 0) := by simpa using ex
     go_simp;exact hK _ _ ((Ext.refl _).alloc _) fun _ => ⟨A9, c9, nd_lit w' _ xop xkind xfa xa A9 xins.length c9, ho9.ext ((Ext.refl _).alloc _)⟩
   refine a4c (fun c9 v w => 1 ≤ c9 ∧ (c9 ≤ 1 → OS (fun k => k ≤ p + 1) 101 6 w2.heap.size (NdQ (a00 0)) w v (bt ++ [.mk xop xins xkind xfa xa []]))) (fun _ => True) rfl (a05 rfl) rfl (a5J fun v w w2 h k => OS.ext (w := w) (w' := w2) (v := v) h k) (fun _ _ _ _ => trivial) ?_ ?_
   · intro a w' hR hS h1 h2 K hK
     have e1 : _ = _ := h1;obtain ⟨y, ey, fy⟩ : ∃ x, a.tmps.getD 23 undef = x ∧ (fun v w => 0 ≤ 0 → ∃ A9 c9, Rd w 6 v 1 [.int .i64 xop, .slice A9 xins.length c9, .int .i64 xkind, .int .i64 xfa, .int .i64 xa, .slice none 0 0] ∧ OE 3 wn.heap.size w (.slice A9 xins.length c9) xins) x w' := ⟨_, rfl, h2⟩
     obtain ⟨A9, c9, hrd, ho9⟩ := fy (Nat.le_refl _);have hS' : Ext wn w' := hS;have hos' := HON.o.ext hS';refine b3l b2N w' (.tmp 20) (.tmp 23) rfl w2.heap.size _ _ bt e1 hos' ey _ (.mk xop xins xkind xfa xa []) hrd (nd_one _ _ _ _ _ _ _) rfl (fun W hW => b1Q ho9 hW (HMK.o w')) (by have := HTL.o; omega) (by have := HTL.o; unfold maxLen; omega) (Nat.le_trans HSN.o hS'.size) ?_
     intro v' w3 hos3 hg3;exact hK _ _ hg3 trivial ⟨Nat.le_refl _, fun _ => hos3⟩
   repeat (first | (refine a0I rfl rfl (fun _ => (a05 rfl)) Ext.refl rfl rfl (fun _ => rfl) ?_; apply Exists.intro; refine ⟨?_, ?_⟩; · (go_simp; rfl)) | (refine a0M rfl rfl (fun _ => (a05 rfl)) Ext.refl rfl ?_; apply Exists.intro; refine ⟨?_, ?_⟩; · (intro c a w' hR; (try (intro h1; try have e1 : _ = _ := h1)); (try (intro h2; try have e2 : _ = _ := h2)); (try (intro h3; try have e3 : _ = _ := h3)); go_simp; rfl)))
   refine a5I ?_;intro w6 hx6 hS6
   iterate 3 (rintro _ rfl)
   rintro v22 h22;rintro v23 h23;rintro v24 h24;rintro _ rfl;dsimp only [a1K];go_simp;have hx6 : wn.grownBy w6 (Value.ownBlock (.slice AO k cO)) := hx6;have hos6 := h24.2 (Nat.le_refl _);have hgq : ExtQ (fun j => (Value.slice AO k cO).ownBlock = some j) wn w6 := ExtQ.grown hx6 fun j hj => hj
   have hb6 : Bx6 w6 p 101 (.int .i64 op) (.slice A1 ins.length c1') (.int .i64 kind) (.int .i64 fa) (.int .i64 a) (.slice AO k cO) := ⟨HBN.o.b.a0Q hgq fun q => by have h1 := (HON.o.lt q).1; have h2 := HSZ2.o; omega⟩
   have hen6 : ExtQ (fun k => k = p ∨ w2.heap.size ≤ k) w2 w6 := HEN.o.trans (hgq.mono fun j hj => .inr (HON.o.lt hj).1)
   obtain ⟨A6, c6, hv24⟩ := hos6.form;rw [List.length_append, List.length_singleton, HTL.o] at hv24;subst hv24;have f5 : w6.frozen? ⟨p, 5, none⟩ = false := hb6.b.frozen 5;obtain ⟨b0, b1, b2, b3, b4, b5⟩ := hb6.at_;have HB7 := hid (show Bx6 (w6.setCell ⟨p, 5, none⟩ (.slice A6 (k + 1) c6)) p 101 (.int .i64 op) (.slice A1 ins.length c1') (.int .i64 kind) (.int .i64 fa) (.int .i64 a) (.slice A6 (k + 1) c6) from ⟨by simpa using hb6.b.a0U 5 (.slice A6 (k + 1) c6)⟩)
   have HO7 := hid (hos6.a0Q (ExtQ.setCell (Q := fun k => k = p) (ExtQ.refl _ _) (p := ⟨p, 5, none⟩) rfl (.slice A6 (k + 1) c6)) (fun j hj => .inl (by show j ≤ p + 1; omega)) (fun g hg q => by have h1 := (hos6.lt hg).1; have h2 := HSZ2.o; omega))
   have HE7 := hid (ExtQ.setCell hen6 (p := ⟨p, 5, none⟩) (.inl rfl) (.slice A6 (k + 1) c6));clear h22 h23 h24 hx6 hS6 hos6 hgq hb6 hen6 b0 b1 b2 b3 b4;obtain ⟨n, hn⟩ : ∃ n, n = k + 1 := ⟨_, rfl⟩;rw [← hn] at HB7 HO7 HE7 ⊢;have HN := hid hn;clear hn;simp only [a0x, List.drop_succ_cons, List.drop_zero]
   go_wp2
   exact ⟨⟨n, by have h1 := HN.o; have h2 := HLT.o; omega, by have h1 := HN.o; subst h1; go_num, ⟨_, HB7.o, by have h1 := HN.o; subst h1; rw [HS.o]; exact HO7.o⟩, HE7.o⟩, by have h1 := HN.o; have h2 := HLT.o; simp [intOf]; omega⟩
 obtain rfl : k = body.length := by omega
 have q1 : ¬ (body.length : Int) < (body.length : Int) := by omega
 rw [List.take_length] at HOS hos;obtain ⟨AO, cO, rfl⟩ := hos.form;have HCR := hid (show Bx6 wr (p + 1) 101 (.int .i64 0) (.slice none 0 0) (.int .i64 0) (.int .i64 0) (.int .i64 0) (.slice none 0 0) from ⟨HC2.o.b.a0Q hext fun q => by have h2 := HSZ2.o; rcases q with q | q <;> omega⟩)
 have HUR := hid (OE.mk (a0a HO2.o.own hext fun g hg q => by have h1 := HO2.o.lt hg; have h2 := HS0.o; rcases q with q | q <;> omega))
 have HF := hid (HCR.o.fill (.int .i64 op) (.slice A1 ins.length c1') (.int .i64 kind) (.int .i64 fa) (.int .i64 a) (.slice AO body.length cO));have HXQ := hid (a6Y (ExtQ.refl (fun k => k = p + 1) wr) (q := p + 1) rfl (.int .i64 op) (.slice A1 ins.length c1') (.int .i64 kind) (.int .i64 fa) (.int .i64 a) (.slice AO body.length cO))
 obtain ⟨d0, d1, d2, d3, d4, d5⟩ := HCR.o.at_;have j0 : wr.frozen? ⟨p + 1, 0, none⟩ = false := HCR.o.b.frozen 0;have j1 : wr.frozen? ⟨p + 1, 1, none⟩ = false := HCR.o.b.frozen 1;have j2 : wr.frozen? ⟨p + 1, 2, none⟩ = false := HCR.o.b.frozen 2;have j3 : wr.frozen? ⟨p + 1, 3, none⟩ = false := HCR.o.b.frozen 3;have j4 : wr.frozen? ⟨p + 1, 4, none⟩ = false := HCR.o.b.frozen 4;have j5 : wr.frozen? ⟨p + 1, 5, none⟩ = false := HCR.o.b.frozen 5;clear hbx hos hext hk hlt
 go_wp2
 generalize (((((wr.setCell ⟨p + 1, 0, none⟩ (.int .i64 op)).setCell ⟨p + 1, 1, none⟩ (.slice A1 ins.length c1')).setCell ⟨p + 1, 2, none⟩ (.int .i64 kind)).setCell ⟨p + 1, 3, none⟩ (.int .i64 fa)).setCell ⟨p + 1, 4, none⟩ (.int .i64 a)).setCell ⟨p + 1, 5, none⟩ (.slice AO body.length cO) = wz at *;have HUZ := hid (OE.mk (a0a HUR.o.own HXQ.o (fun g hg q => by have h1 := HO2.o.lt hg; have h2 := HS0.o; omega)))
 have HOZ := hid (HOS.o.a0Q HXQ.o (fun j hj => .inl (by show j ≤ p + 1; omega)) (fun g hg q => by have h1 := (HOS.o.lt hg).1; have h2 := HSZ2.o; omega))
 have HST := hid (fun (W : World) (hW : ExtQ (fun k => k < w.heap.size) wz W) => (⟨(OE.mk (a0a HUZ.o.own hW (fun g hg q => by have h1 := HO2.o.lt hg; have h2 := HS0.o; have h3 := HP.o; omega))).re,
  a00.a9x ((HOZ.o.a0Q hW (fun j hj => .inl (by have h3 := HP.o; show j ≤ p + 1; omega)) (fun g hg q => by have h1 := (HOS.o.lt hg).1; have h2 := HSZ2.o; omega)).rs)⟩ : RE W (.slice A1 ins.length c1') ins ∧ a00 1 W (.slice AO body.length cO) body))
 obtain ⟨y0, y1, y2, y3, y4, y5⟩ := HF.o.at_
 exact bodyPost_ret (v := a1C op kind fa a (.slice A1 ins.length c1') (.slice AO body.length cO)) (by simp [results, Tryz.results100, go_sem, y0, y1, y2, y3, y4, y5]) rfl
  ⟨_, _, rfl, HST.o, HXW.o.a4N HXQ.o (fun g hg => by have h1 := HP.o; omega)⟩
end Go.Proofs.YtdkejfjcchlnpaaGreat
namespace Go.Ox.Gr
theorem a2N {f : Nd → Nat → Bool} : ∀ {l : List Nd} {i : Nat}, each f l i = true → ∀ (k : Nat) (h : k < l.length), f l[k] (i + k) = true
 | [], _, _, _, h => absurd h (Nat.not_lt_zero _)
 | n :: l, i, h, k, hk => by
  unfold each at h;rw [Bool.and_eq_true] at h
  cases k with
  | zero => simpa using h.1
  | succ k =>
   have := a2N h.2 k (by simpa using hk)
   simpa [Nat.add_assoc, Nat.add_comm 1 k] using this
theorem a5K {n : Nd} {i : Nat} (h : base n i = true) : n.ins.length ≤ 2 := by
 unfold base at h;simp only [Bool.and_eq_true, decide_eq_true_eq] at h;have := a4b n.op;omega
theorem a4d {l : List Nd} {out : Int} (h : gOk (l, out) = true) {n : Nd} (hn : n ∈ l) : n.ins.length ≤ 2 ∧ n.body.length ≤ 32 ∧ ∀ m ∈ n.body, m.body = [] ∧ m.ins.length ≤ 2 := by
 unfold gOk a2L at h;simp only [Bool.and_eq_true, decide_eq_true_eq] at h;obtain ⟨k, hk, rfl⟩ := List.getElem_of_mem hn;have h1 := a2N h.1.2.2 k hk;unfold a9v at h1;simp only [Bool.and_eq_true] at h1;refine ⟨a5K h1.1, ?_⟩
 by_cases h9 : l[k].op = 9
 · rw [if_pos h9] at h1
   have h2 := h1.2.2.2;unfold a2K at h2;simp only [Bool.and_eq_true, decide_eq_true_eq] at h2;refine ⟨h2.2.1, fun m hm => ?_⟩
   obtain ⟨j, hj, rfl⟩ := List.getElem_of_mem hm;have h3 := a2N h2.2.2 j hj;unfold b4H at h3;simp only [Bool.and_eq_true] at h3;exact ⟨List.isEmpty_iff.1 h3.2.2.2, a5K h3.1⟩
 rw [if_neg h9] at h1;have h2 : l[k].body = [] := List.isEmpty_iff.1 h1.2.2.2;rw [h2];exact ⟨by simp, fun m hm => by simp at hm⟩
end Go.Ox.Gr
namespace Go.Proofs.YtdkejfjcchlnpaaGreat
open Go.RowKit Go.Ox Go.Ox.Gr
attribute [local irreducible] RE OE a00
abbrev plV (p : Pl) : Value := .agg #[.int .i64 p.1, .int .i64 p.2]
abbrev a3M (i j : Int) : Obj := .cells #[.int .i64 i, .int .i64 j] 27
abbrev nd0V : Value := a1C 0 0 0 0 (.slice none 0 0) (.slice none 0 0)
structure BN3 (w : World) (p : Nat) (gv : Value) (out i j : Int) : Prop where
 g : Blk w p 24 #[gv, .int .i64 out]
 q : Blk w (p + 1) 27 #[.int .i64 i, .int .i64 j]
 r : Bx6 w (p + 1 + 1) 101 (.int .i64 0) (.slice none 0 0) (.int .i64 0) (.int .i64 0) (.int .i64 0) (.slice none 0 0)
theorem BN3.ext {w w' : World} {p : Nat} {gv : Value} {out i j : Int} (h : BN3 w p gv out i j) (he : Ext w w') : BN3 w' p gv out i j := ⟨h.g.ext he, h.q.ext he, h.r.ext he⟩
abbrev wBN3 (w : World) (gv : Value) (out i j : Int) : World := ((w.alloc (gCs gv out)).alloc (a3M i j)).alloc (a0i 0 0 0 0 (.slice none 0 0) (.slice none 0 0))
theorem BN3.new (w : World) (gv : Value) (out i j : Int) : BN3 (wBN3 w gv out i j) w.heap.size gv out i j := by
 have e1 : (w.alloc (gCs gv out)).heap.size = w.heap.size + 1 := by simp
 have e2 : ((w.alloc (gCs gv out)).alloc (a3M i j)).heap.size = w.heap.size + 1 + 1 := by simp
 refine ⟨((Blk.new w 24 #[gv, .int .i64 out]).ext ((Ext.refl _).alloc _)).ext ((Ext.refl _).alloc _), ?_, ?_⟩
 · have := (Blk.new (w.alloc (gCs gv out)) 27 #[.int .i64 i, .int .i64 j]).ext ((Ext.refl _).alloc (a0i 0 0 0 0 (.slice none 0 0) (.slice none 0 0)))
   rw [e1] at this;exact this
 have := Bx6.new ((w.alloc (gCs gv out)).alloc (a3M i j)) 101 (.int .i64 0) (.slice none 0 0) (.int .i64 0) (.int .i64 0) (.int .i64 0) (.slice none 0 0);rw [e2] at this;exact this
theorem BN3.cells {w : World} {p : Nat} {gv : Value} {out i j : Int} (h : BN3 w p gv out i j) :
 w.cell? ⟨p, 0, none⟩ = some gv ∧ w.cell? ⟨p, 1, none⟩ = some (.int .i64 out) ∧ w.cell? ⟨p + 1, 0, none⟩ = some (.int .i64 i) ∧ w.cell? ⟨p + 1, 1, none⟩ = some (.int .i64 j) := ⟨h.g.cell 0, h.g.cell 1, h.q.cell 0, h.q.cell 1⟩
theorem BN3.a7N {w : World} {p : Nat} {gv : Value} {out i j : Int} (h : BN3 w p gv out i j) :
 (w.cell? ⟨p + 1 + 1, 0, none⟩ = some (.int .i64 0) ∧ w.cell? ⟨p + 1 + 1, 1, none⟩ = some (.slice none 0 0) ∧ w.cell? ⟨p + 1 + 1, 2, none⟩ = some (.int .i64 0) ∧ w.cell? ⟨p + 1 + 1, 3, none⟩ = some (.int .i64 0) ∧ w.cell? ⟨p + 1 + 1, 4, none⟩ = some (.int .i64 0) ∧ w.cell? ⟨p + 1 + 1, 5, none⟩ = some (.slice none 0 0)) ∧
 (w.frozen? ⟨p + 1 + 1, 0, none⟩ = false ∧ w.frozen? ⟨p + 1 + 1, 1, none⟩ = false ∧ w.frozen? ⟨p + 1 + 1, 2, none⟩ = false ∧ w.frozen? ⟨p + 1 + 1, 3, none⟩ = false ∧ w.frozen? ⟨p + 1 + 1, 4, none⟩ = false ∧ w.frozen? ⟨p + 1 + 1, 5, none⟩ = false) :=
 ⟨h.r.at_, h.r.b.frozen 0, h.r.b.frozen 1, h.r.b.frozen 2, h.r.b.frozen 3, h.r.b.frozen 4, h.r.b.frozen 5⟩
theorem a11 (d : Nat) (v : Value) (l : List Nd) (out i j : Int) (w : World) (hv : a00 d w v l) (h : gOk (l, out) = false ∨ (gOk (l, out) = true ∧ (i < 0 ∨ (0 ≤ i ∧ (l.length : Int) ≤ i) ∨ (0 ≤ i ∧ i < (l.length : Int) ∧ j < -1)))) :
 Calls Tryz.prog 68 #[gAg v out, plV (i, j)] w fun e w' => e = .returned (.tuple #[nd0V, .bool false]) ∧ Ext w w' := by
 obtain ⟨A, c, rfl⟩ := hv.form;have HX0 := hid ((((Ext.refl w).alloc (gCs (.slice A l.length c) out)).alloc (a3M i j)).alloc (a0i 0 0 0 0 (.slice none 0 0) (.slice none 0 0)));have HB0 := hid (show BN3 (((w.alloc (gCs (.slice A l.length c) out)).alloc (a3M i j)).alloc (a0i 0 0 0 0 (.slice none 0 0) (.slice none 0 0))) w.heap.size (.slice A l.length c) out i j from BN3.new w (.slice A l.length c) out i j);have HCK := hid (fun w h => a0C d (.slice A l.length c) l out w h)
 have HV := hid (hv.ext HX0.o);have HH := hid h;clear hv h
 go_enter Tryz.func68, Tryz.ntmps68
 go_upto_region 1 with fail
 obtain ⟨p, hp⟩ : ∃ p, p = w.heap.size := ⟨_, rfl⟩;rw [← hp] at HB0 ⊢;have HP := hid hp;clear hp;generalize ((w.alloc (gCs (.slice A l.length c) out)).alloc (a3M i j)).alloc (a0i 0 0 0 0 (.slice none 0 0) (.slice none 0 0)) = w0 at *;obtain ⟨a0, a1, a2, a3⟩ := HB0.o.cells
 go_wp2_with fail
 refine (HCK.o _ HV.o).mono ?_;rintro e w1 ⟨rfl, he1⟩;have HX1 := hid (HX0.o.trans he1);have HB1 := hid (HB0.o.ext he1);clear he1 a0 a1 a2 a3;obtain ⟨a0, a1, a2, a3⟩ := HB1.o.cells;obtain ⟨⟨r0, r1, r2, r3, r4, r5⟩, f0, f1, f2, f3, f4, f5⟩ := HB1.o.a7N;have HF := hid (HB1.o.r.fill (.int .i64 0) (.slice none 0 0) (.int .i64 0) (.int .i64 0) (.int .i64 0) (.slice none 0 0));have HXQ := hid (a6Y (ExtQ.refl (fun k => k = p + 1 + 1) w1) (q := p + 1 + 1) rfl (.int .i64 0) (.slice none 0 0) (.int .i64 0) (.int .i64 0) (.int .i64 0) (.slice none 0 0))
 have HGE := hid (show gE (l, out) = if gOk (l, out) = true then 0 else 170 from rfl)
 generalize gE (l, out) = E at *;generalize gOk (l, out) = ok at *;have hh := HH.o
 rcases hh with rfl | ⟨rfl, hh⟩
 case' inl =>
  have hE : E = 170 := HGE.o;subst hE
 case' inr =>
  have hE : E = 0 := HGE.o;subst hE
  rcases hh with hh | ⟨g0, hh⟩ | ⟨g0, g1, hh⟩
 case' inr.inr.inr =>
  have g0b : ¬ i < 0 := by omega
  have g1b : ¬ (l.length : Int) ≤ i := by omega
  clear g0 g1
 case' inr.inr.inl =>
  have g0b : ¬ i < 0 := by omega
  clear g0
 all_goals
  clear HH HGE
  go_wp2
  generalize (((((w1.setCell ⟨p + 1 + 1, 0, none⟩ (.int .i64 0)).setCell ⟨p + 1 + 1, 1, none⟩ (.slice none 0 0)).setCell ⟨p + 1 + 1, 2, none⟩ (.int .i64 0)).setCell ⟨p + 1 + 1, 3, none⟩ (.int .i64 0)).setCell ⟨p + 1 + 1, 4, none⟩ (.int .i64 0)).setCell ⟨p + 1 + 1, 5, none⟩ (.slice none 0 0) = wz at *;obtain ⟨y0, y1, y2, y3, y4, y5⟩ := HF.o.at_;exact bodyPost_ret (v := .tuple #[nd0V, .bool false]) (by simp [results, Tryz.results68, go_sem, y0, y1, y2, y3, y4, y5]) rfl ⟨rfl, HX1.o.a4N HXQ.o (fun g hg => by have h1 := HP.o; omega)⟩
end Go.Proofs.YtdkejfjcchlnpaaGreat
