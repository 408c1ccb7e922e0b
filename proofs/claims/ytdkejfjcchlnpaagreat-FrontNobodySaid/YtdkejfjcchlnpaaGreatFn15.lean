/-
  GrPlaces, Copy, packed: what the claim needs of them.
-/
import Derived.Test.YtdkejfjcchlnpaaGreatFn14
set_option maxHeartbeats 40000000
open Go.Lib (hid)
set_option linter.unusedSimpArgs false
set_option linter.unusedVariables false
set_option maxRecDepth 100000
namespace Go.Proofs.YtdkejfjcchlnpaaGreat
open Go.RowKit Go.Ox Go.Ox.Gr
attribute [local irreducible] RE a00
theorem a8y (op kind fa a : Int) (u b : Value) (w : World) :
 Calls Tryz.prog 186 #[a1C op kind fa a u b] w fun e w' => e = .returned (.bool (op == 9)) ∧ Ext w w' := by
 have HX := hid ((Ext.refl w).alloc (a0i op kind fa a u b));obtain ⟨c0, c1, c2, c3, c4, c5⟩ := (Bx6.new w 101 (.int .i64 op) u (.int .i64 kind) (.int .i64 fa) (.int .i64 a) b).at_
 go_enter Tryz.func186, Tryz.ntmps186
 go_wp2
 go_ret
 exact ⟨rfl, HX.o⟩
theorem a8z (d : Nat) (v : Value) (l : List Nd) (w : World) (hv : a00 d w v l) (hl : l.length ≤ 1000000) :
 Calls Tryz.prog 185 #[v, .func (.func 186) #[] #[]] w fun e w' => e = .returned (.int .i64 (a04 l)) ∧ Ext w w' := by
 have eg : ∀ args w, (callFunc 186 args).run Tryz.prog w = .ok (.enter 186 args) w := enters_of Tryz.func186 (by kernel_rfl) rfl
 obtain ⟨A, c, rfl⟩ := hv.form;have HV := hid hv;have HL := hid hl;clear hv hl
 go_enter Tryz.func185, Tryz.ntmps185
 go_wp2
 go_loopw [8] (fun iv wr => ∃ k : Nat, k ≤ l.length ∧ iv = .int .i64 (k : Int) ∧ a04 (l.take k) = -1 ∧ Ext w wr) (fun iv _ => l.length - (intOf iv).toNat)
 case atStart => exact ⟨0, Nat.zero_le _, rfl, rfl, Ext.refl _⟩
 case round =>
 obtain ⟨k, hk, rfl, hp, hext⟩ := hrel;have HP := hid hp;have HE := hid hext;clear hp
 by_cases hlt : k < l.length
 · have g1 : (k : Int) < (l.length : Int) := by omega
   have g0 : 0 ≤ (k : Int) := by omega
   have g1n : k < l.length := hlt;have hkb : k ≤ 1000000 := by have := HL.o; omega
   have HLT := hid hlt;obtain ⟨bA, oA, u, bv, rfl, c0, c1, c2, c3, c4, c5, hu, hbv⟩ := (HV.o.ext hext).at_ hlt;have HS := hid (a7K l hlt HP.o);have HT := hid (fun h9 => a8s l hlt HP.o h9)
   generalize l[k] = x at *;obtain ⟨op, ins, kind, fa, a, body⟩ := x;simp only [Nd.op, Nd.kind, Nd.fa, Nd.a, Nd.ins, Nd.body] at c0 c1 c2 c3 c4 c5 hu hbv;replace HS := hid (show a04 (l.take (k + 1)) = if op = 9 then (k : Int) else -1 from HS.o)
   replace HT := hid (show op = 9 → a04 l = (k : Int) from HT.o);have HC := hid (a8y op kind fa a u bv wr);obtain ⟨Au, cu, rfl⟩ := hu.form;obtain ⟨Ab, cb, rfl⟩ := hbv.form;clear hext hk hlt hu hbv
   by_cases h9 : op = 9
   · have HR := hid (HT.o h9)
     subst h9
     go_wp2_with fail
     refine HC.o.mono ?_;rintro e w1 ⟨rfl, he1⟩
     go_wp2
     go_ret
     exact ⟨by rw [HR.o]; rfl, HE.o.trans he1⟩
   rw [if_neg h9] at HS;have hb : (op == 9) = false := by simpa using h9
   rw [hb] at HC;clear h9 hb HT
   go_wp2_with fail
   refine HC.o.mono ?_;rintro e w1 ⟨rfl, he1⟩
   go_wp2
   exact ⟨⟨k + 1, HLT.o, by go_num, HS.o, HE.o.trans he1⟩, by have := HLT.o; simp [intOf]; omega⟩
 obtain rfl : k = l.length := by omega
 have g1 : ¬ (l.length : Int) < (l.length : Int) := by omega
 rw [List.take_length] at HP;clear hext
 go_wp2
 go_ret
 exact ⟨by rw [HP.o]; rfl, HE.o⟩
def a5G (g : G) : Int := if gOk g = true then max (a04 g.1) 0 else 0
def a1A (g : G) : Bool := gOk g && decide (0 ≤ a04 g.1)
theorem a9I {g : G} (h : gOk g = true) : g.1.length ≤ 32 := by
 unfold gOk a2L at h;simp only [Bool.and_eq_true, decide_eq_true_eq] at h;omega
theorem a6n (d : Nat) (v : Value) (l : List Nd) (out : Int) (w : World) (hv : a00 d w v l) :
 Calls Tryz.prog 168 #[gAg v out] w fun e w' => e = .returned (.tuple #[.int .i64 (a5G (l, out)), .bool (a1A (l, out))]) ∧ Ext w w' := by
 obtain ⟨A, c, rfl⟩ := hv.form;have HX0 := hid ((Ext.refl w).alloc (gCs (.slice A l.length c) out));have HB0 := hid (Blk.new w 24 #[.slice A l.length c, .int .i64 out]);have HV := hid (hv.ext HX0.o);have HCK := hid (fun w h => a0C d (.slice A l.length c) l out w h)
 have HIX := hid (fun w h hl => a8z d (.slice A l.length c) l w h hl)
 have HLR := hid (a1c l);have HI := hid (show a5G (l, out) = if gOk (l, out) = true then max (a04 l) 0 else 0 from rfl)
 have HB := hid (show a1A (l, out) = (gOk (l, out) && decide (0 ≤ a04 l)) from rfl);have H32 := hid (show gOk (l, out) = true → l.length ≤ 32 from fun h => a9I h)
 have HGE := hid (show gE (l, out) = if gOk (l, out) = true then 0 else 170 from rfl)
 generalize a5G (l, out) = RI at *;generalize a1A (l, out) = RB at *;generalize gE (l, out) = E at *;generalize gOk (l, out) = ok at *;generalize a04 l = la at *;clear hv
 go_enter Tryz.func168, Tryz.ntmps168
 go_upto_region 1 with fail
 generalize w.heap.size = p at *;generalize w.alloc (gCs (.slice A l.length c) out) = w0 at *;have c0 := HB0.o.c0;have c1 := HB0.o.c1
 go_wp2_with fail
 refine (HCK.o _ HV.o).mono ?_;rintro e w1 ⟨rfl, he1⟩;have HX1 := hid (HX0.o.trans he1);have HV1 := hid (HV.o.ext he1);have c0 := he1.cell c0;clear he1 c1
 cases ok with
 | false =>
  have HE := hid (show E = 170 from HGE.o);have H1 := hid (show RI = 0 from HI.o);have H2 := hid (show RB = false from HB.o);obtain rfl := HE.o
  go_wp2
  go_ret2
  exact ⟨by rw [H1.o, H2.o]; rfl, HX1.o⟩
 | true =>
 have HE := hid (show E = 0 from HGE.o);have H1 := hid (show RI = max la 0 from HI.o);have H2 := hid (show RB = decide (0 ≤ la) from HB.o);have H3 := hid (H32.o rfl);obtain rfl := HE.o
 go_wp2_with fail
 refine (HIX.o _ HV1.o (by have := H3.o; omega)).mono ?_
 rintro e w2 ⟨rfl, he2⟩;have HX2 := hid (HX1.o.trans he2);clear he2 c0
 go_wp2
 go_ret2
 exact ⟨by rw [H1.o, H2.o]; rfl, HX2.o⟩
end Go.Proofs.YtdkejfjcchlnpaaGreat
namespace Go.Proofs.YtdkejfjcchlnpaaGreat
open Go.RowKit Go.Ox Go.Ox.Gr
attribute [local irreducible] RE OE a00
theorem a9J : Elem Tryz.prog 77 27 (.agg #[.int .i64 0, .int .i64 0]) 2 16 := Elem.mk' Tryz.underlying77 (by kernel_rfl) rfl (by omega)
theorem cell_grown {w w' : World} {row : Option Nat} {b o : Nat} {v : Value} (hg : w.grownBy w' row) (h : w.cell? ⟨b, o, none⟩ = some v) (hr : row ≠ some b) : w'.cell? ⟨b, o, none⟩ = some v := by
 have h1 := (ExtQ.grown (Q := fun k => k ≠ b) hg (fun g hg e => hr (by rw [hg, e]))).block b (World.block_lt_of_cell? w _ h) (fun h => h rfl)
 rw [← h];simp [World.cell?, h1]
theorem a4Y : ∀ (l : List Nd) (i : Nat), (∀ n ∈ l, n.body.length ≤ 100) → (a0c l i).length ≤ l.length * 101
 | [], _, _ => by simp [a0c]
 | n :: l, i, h => by
  have h1 := a4Y l (i + 1) fun m hm => h m (List.mem_cons_of_mem _ hm)
  have h2 := h n List.mem_cons_self;unfold a0c;rw [List.length_append, a9w, List.length_cons];omega
theorem a4Z (l : List Nd) (k : Nat) (h : ∀ n ∈ l, n.body.length ≤ 100) (hl : l.length ≤ 100) : (a0N (l.take k)).length ≤ 10100 := by
 have := a4Y (l.take k) 0 fun n hn => h n (List.mem_of_mem_take hn)
 rw [List.length_take] at this;unfold a0N;omega
theorem a8A (d : Nat) (v : Value) (l : List Nd) (out : Int) (w : World) (hv : a00 d w v l) (hl : l.length ≤ 100) (hbl : ∀ n ∈ l, n.body.length ≤ 100) (hok : gOk (l, out) = true) :
 Calls Tryz.prog 166 #[gAg v out] w fun e w' => ∃ u, e = .returned u ∧ OE 27 w.heap.size w' u (a0N l) ∧ Ext w w' := by
 obtain ⟨A, c, rfl⟩ := hv.form;have HX0 := hid ((Ext.refl w).alloc (gCs (.slice A l.length c) out));have HB0 := hid (Blk.new w 24 #[.slice A l.length c, .int .i64 out]);have HV := hid (hv.ext HX0.o);have HL := hid hl;have HBL := hid (fun (k : Nat) (h : k < l.length) => hbl l[k] (List.getElem_mem h))
 have HPL := hid (fun k => a4Z l k hbl hl)
 have HCK := hid (fun w h => a0C d (.slice A l.length c) l out w h)
 rw [show gE (l, out) = 0 from if_pos hok] at HCK;clear hok;clear hv hl hbl
 go_enter Tryz.func166, Tryz.ntmps166
 go_upto_region 1 with fail
 obtain ⟨p, hp⟩ : ∃ p, p = w.heap.size := ⟨_, rfl⟩;rw [← hp] at HB0 ⊢;have HPS := hid hp;clear hp;generalize w.alloc (gCs (.slice A l.length c) out) = w0 at *;have c0 := HB0.o.c0;have c1 := HB0.o.c1
 go_wp2_with fail
 refine (HCK.o _ HV.o).mono ?_;rintro e w1 ⟨rfl, he1⟩;have HX1 := hid (HX0.o.trans he1);have HB1 := hid (HB0.o.ext he1);have HV1 := hid (HV.o.ext he1);have c0 := he1.cell c0;clear he1 c1
 go_wp2
 clear c0
 go_loopw [3, 13] (fun o iv wr => ∃ k : Nat, k ≤ l.length ∧ iv = .int .i64 (k : Int) ∧ OE 27 w1.heap.size wr o (a0N (l.take k)) ∧ Ext w1 wr) (fun _ iv _ => l.length - (intOf iv).toNat)
 case atStart => exact ⟨0, Nat.zero_le _, rfl, OE.a2F _ _ _, Ext.refl _⟩
 case round =>
 obtain ⟨k, hk, rfl, ho, hext⟩ := hrel;have HE := hid hext;have HO := hid ho;have HPK := hid (HPL.o k);obtain ⟨AO, cO, hvo⟩ := ho.re.form;have hk100 : k ≤ 100 := by have := HL.o; omega
 by_cases hlt : k < l.length
 · have q1 : (k : Int) < (l.length : Int) := by omega
   have q0 : 0 ≤ (k : Int) := by omega
   have q1n : k < l.length := hlt;have HLT := hid hlt;obtain ⟨bA, oA, u, bv, rfl, e0, e1, e2, e3, e4, e5, hu, hbv⟩ := HV1.o.at_ hlt;have HS := hid (b1z l hlt);have HBK := hid (HBL.o k hlt);have HPK1 := hid (HPL.o (k + 1));rw [HS.o] at HPK1;generalize l[k] = x at *;obtain ⟨op, ins, kind, fa, a, body⟩ := x;simp only [Nd.op, Nd.kind, Nd.fa, Nd.a, Nd.ins, Nd.body] at e0 e1 e2 e3 e4 e5 hu hbv;replace HS := hid (show a0N (l.take (k + 1)) = a0N (l.take k) ++ plN k body.length from HS.o);replace HBK := hid (show body.length ≤ 100 from HBK.o);replace HPK1 := hid (show (a0N (l.take k) ++ plN k body.length).length ≤ 10100 from HPK1.o);obtain ⟨Au, cu, rfl⟩ := hu.form;obtain ⟨Ab, cb, rfl⟩ := hbv.form;generalize a0N (l.take k) = pl at *;subst hvo;have HE5 := hid e5;have e0 := hext.cell e0;have e1 := hext.cell e1;have e2 := hext.cell e2;have e3 := hext.cell e3;have e4 := hext.cell e4;have e5 := hext.cell e5;have hxn := (Ext.refl wr).alloc (a0i op kind fa a (.slice Au ins.length cu) (.slice Ab body.length cb));obtain ⟨y0, y1, y2, y3, y4, y5⟩ := (Bx6.new wr 101 (.int .i64 op) (.slice Au ins.length cu) (.int .i64 kind) (.int .i64 fa) (.int .i64 a) (.slice Ab body.length cb)).at_;have HXN := hid (HE.o.trans hxn);have HON := hid (ho.ext hxn);have HQS := hid (show wr.heap.size < (wr.alloc (a0i op kind fa a (.slice Au ins.length cu) (.slice Ab body.length cb))).heap.size by simp)
   have HQO := hid (fun g hg => (ho.own.lt g hg).2)
   clear hxn y0 y1 y2 y3 y4
   go_upto_region 7 with fail
   clear e0 e1 e2 e3 e4 e5;generalize wr.heap.size = q at *;generalize wr.alloc (a0i op kind fa a (.slice Au ins.length cu) (.slice Ab body.length cb)) = wn at *;have HL1 := hid (RE.lit wn #[.int .i64 (k : Int), .int .i64 (-1)] 27 1 [((k : Int), (-1 : Int))] rfl (by omega) rfl)
   have HXA := hid ((Ext.refl wn).alloc (.cells #[.int .i64 (k : Int), .int .i64 (-1)] 27));have HOL := hid ((HON.o).ext HXA.o);have HXB := hid ((HXN.o).trans HXA.o);clear ho hext hlt hk hu hbv;have y5 := HXA.o.cell y5
   go_wp2_with (at_builtin; refine a0y rfl a9J _ _ _ rfl w1.heap.size _ _ pl [((k : Int), (-1 : Int))] rfl HOL.o rfl HL1.o (by have := HPK.o; simp; omega) (by have := HPK.o; unfold maxLen; simp; omega) HXB.o.size ?_; intro v7 w7 ho7 hg7 hat7; have z5 := cell_grown hat7 y5 (fun e => by have := HQO.o _ e; omega))
   have HX7 := hid (HXB.o.grown hat7 fun g hg => (HOL.o.own.lt g hg).1)
   have HO7 := hid ho7;clear hg7 hat7 HOL HL1 HXA HXB HO HON HE HXN HQS HQO;clear y5
   go_wp2
   clear z5
   go_loopw [3, 26] (fun o iv wx => ∃ j : Nat, j ≤ body.length ∧ iv = .int .i64 (j : Int) ∧ OE 27 w1.heap.size wx o (pl ++ plN k j) ∧ Ext w1 wx) (fun _ iv _ => body.length - (intOf iv).toNat)
   case atStart => exact ⟨0, Nat.zero_le _, rfl, HO7.o, HX7.o⟩
   case round =>
   obtain ⟨j, hj, rfl, ho, hext⟩ := hrel;rename World => wx
   have HE := hid hext;have HO := hid ho;obtain ⟨AP, cP, hvo⟩ := ho.re.form;have hj100 : j ≤ 100 := by have := HBK.o; omega
   by_cases hlt : j < body.length
   · have r1 : (j : Int) < (body.length : Int) := by omega
     have HJT := hid hlt;have HSJ := hid (plN_s k j);have HPJ := hid (show (pl ++ plN k j).length ≤ 10100 by have h1 := HPK1.o; rw [List.length_append, a9w] at h1 ⊢; omega)
     have HAS := hid (show pl ++ plN k (j + 1) = (pl ++ plN k j) ++ [((k : Int), (j : Int))] by rw [HSJ.o, List.append_assoc])
     generalize pl ++ plN k j = pj at *;subst hvo;have HL1 := hid (RE.lit wx #[.int .i64 (k : Int), .int .i64 (j : Int)] 27 1 [((k : Int), (j : Int))] rfl (by omega) rfl)
     have HXA := hid ((Ext.refl wx).alloc (.cells #[.int .i64 (k : Int), .int .i64 (j : Int)] 27));have HOL := hid (ho.ext HXA.o);have HXB := hid (HE.o.trans HXA.o);clear ho hext hlt hj
     go_wp2_with (at_builtin; refine a0y rfl a9J _ _ _ rfl w1.heap.size _ _ pj [((k : Int), (j : Int))] rfl HOL.o rfl HL1.o (by have := HPJ.o; simp; omega) (by have := HPJ.o; unfold maxLen; simp; omega) HXB.o.size ?_; intro v8 w8 ho8 hg8 hat8)
     have HX8 := hid (HXB.o.grown hat8 fun g hg => (HOL.o.own.lt g hg).1)
     have HO8 := hid ho8;clear hg8 hat8 ho8
     go_wp2
     exact ⟨⟨j + 1, HJT.o, by go_num, by rw [HAS.o]; exact HO8.o, HX8.o⟩, by have := HJT.o; simp [intOf]; omega⟩
   obtain rfl : j = body.length := by omega
   have r1 : ¬ (body.length : Int) < (body.length : Int) := by omega
   clear ho hext hj hlt
   go_wp2
   exact ⟨⟨k + 1, HLT.o, by go_num, by rw [HS.o]; exact HO.o, HE.o⟩, by have := HLT.o; simp [intOf]; omega⟩
 obtain rfl : k = l.length := by omega
 have q1 : ¬ (l.length : Int) < (l.length : Int) := by omega
 rw [List.take_length] at HO;have HOF := hid (HO.o.low (show p ≤ w1.heap.size from Nat.le_of_lt HB1.o.lt));clear ho hext hk hlt hvo
 go_wp2
 go_ret
 exact ⟨_, rfl, by rw [← HPS.o]; exact HOF.o, HX1.o.trans HE.o⟩
end Go.Proofs.YtdkejfjcchlnpaaGreat
namespace Go.Ox
open Go.RowKit
section
variable {P : Program} {t e : TypeId} {z : Value} {bytes : Nat}
theorem OB.nilO (w : World) (E base : Nat) : OB E base w (.slice none 0 0) [] := World.ownsRow_nil _ _ _ _
end
end Go.Ox
