/-
  PlRound, packed: what the claim needs of them.
-/
import Derived.Test.YtdkejfjcchlnpaaGreatFn18
set_option maxHeartbeats 40000000
open Go.Lib (hid)
set_option linter.unusedSimpArgs false
set_option linter.unusedVariables false
set_option maxRecDepth 100000
namespace Go.Ox.Pl
open Go.Ox.Gr
def a6N (lp i0 n : Int) (v : Int × Int) : List Ar := [(((i0, -1), v), (true, 0)), (((lp, n - 1), v), (false, 1))]
def a9b (lp n : Int) (v : Int × Int) : Ar := (((lp, n - 1), v), (false, 1))
def a3B (lp i0 : Int) (body : List Nd) : List Ar :=
 (((lp, (body.length : Int) - 1), (lp, -1)), (true, 0)) :: ((bgF lp 10 body 0).flatMap (a6N lp i0 body.length) ++ (bgF lp 11 body 0).map (a9b lp body.length))
theorem a9Q {l : List (Int × Int)} {k : Nat} {lp i0 n : Int} (h : k < l.length) : (l.take (k + 1)).flatMap (a6N lp i0 n) = (l.take k).flatMap (a6N lp i0 n) ++ a6N lp i0 n l[k] := by
 rw [List.take_succ_eq_append_getElem h, List.flatMap_append]; simp
theorem map_take {l : List (Int × Int)} {k : Nat} {lp n : Int} (h : k < l.length) : (l.take (k + 1)).map (a9b lp n) = (l.take k).map (a9b lp n) ++ [a9b lp n l[k]] := by
 rw [List.take_succ_eq_append_getElem h, List.map_append]; simp
theorem a3N (lp i0 n : Int) : ∀ l : List (Int × Int), (l.flatMap (a6N lp i0 n)).length = 2 * l.length
 | [] => rfl
 | v :: l => by rw [List.flatMap_cons, List.length_append, a3N lp i0 n l]; simp [a6N]; omega
end Go.Ox.Pl
namespace Go.Proofs.YtdkejfjcchlnpaaGreat
open Go.RowKit Go.Ox Go.Ox.Gr
theorem OE.extK {α : Type} [C : Enc α] {Q : Nat → Prop} {E B : Nat} {w w' : World} {v : Value} {l : List α} (h : OE E B w v l) (he : ExtQ Q w w') (hq : ∀ k, v.ownBlock = some k → ¬ Q k) : OE E B w' v l := by
 unfold OE at *;exact a0a h he hq
theorem a1d {α : Type} [C : Enc α] {P : Program} {t e : TypeId} {z : Value} {bytes : Nat} {ops : Array Oper} {rest : List Oper} {o : Oper} {a : Act} {Q : Exit → Act → World → Prop} (hgd : o.guard = none) (el : Elem P t e z C.k bytes) (w : World) (s x : Operand)
 (ho : o.op = .call { callee := .builtin .append, args := #[s, x], argTypes := #[t, t] })
 (base : Nat) (v vx : Value) (l r : List α) (hs : a.eval s = v) (hown : OE e base w v l) (hx : a.eval x = vx) (hr : RE w vx r)
 (hb : (l.length + r.length) * bytes ≤ 140737488355328) (hm : l.length + r.length ≤ maxLen) (hbase : base ≤ w.heap.size)
 (h : ∀ v' w', OE e base w' v' (l ++ r) → w.grownBy w' v.ownBlock → (v'.ownBlock = v.ownBlock ∨ v'.ownBlock = some w.heap.size) → wpList P ops Q rest (a.put o.dst v') w') : wpList P ops Q (o :: rest) a w :=
 a0J hgd el w s x ho base v l.length (eV l) hs hown.own vx r.length (eV r) hx hr.rd (a7A r) hb hm hbase fun v' w' ha => h v' w' (OE.app ha.own) ha.grown ha.at_
theorem stepB {b0 : Nat} {w4 wr w7 : World} {o v7 : Value} (hx : ExtQ (fun i => i = b0) w4 wr) (hob : ∀ q, o.ownBlock = some q → q = b0 ∨ w4.heap.size ≤ q) {w5 : World} (he : Ext wr w5) (hg : w5.grownBy w7 o.ownBlock) (hat : v7.ownBlock = o.ownBlock ∨ v7.ownBlock = some w5.heap.size) :
 ExtQ (fun i => i = b0) w4 w7 ∧ ∀ q, v7.ownBlock = some q → q = b0 ∨ w4.heap.size ≤ q := by
 have h1 : ExtQ (fun i => i = b0 ∨ w4.heap.size ≤ i) w4 w7 := ((hx.mono fun i hi => .inl hi).trans (ExtQ.of he)).trans (ExtQ.grown hg fun q hq => hob q hq)
 refine ⟨h1.a6b fun i hi hq => hq.elim id fun e => by omega, fun q hq => ?_⟩
 rcases hat with e | e
 · rw [e] at hq; exact hob q hq
 rw [e] at hq;injection hq with hq
 have := hx.size;have := he.size;exact .inr (by omega)
theorem b3C {R0 : Nat → Prop} {w4 wr w7 : World} {o v7 : Value} (hx : ExtQ R0 w4 wr) (hob : ∀ q, o.ownBlock = some q → R0 q ∨ w4.heap.size ≤ q) {w5 : World} (he : Ext wr w5) (hg : w5.grownBy w7 o.ownBlock) (hat : v7.ownBlock = o.ownBlock ∨ v7.ownBlock = some w5.heap.size) :
 ExtQ R0 w4 w7 ∧ ∀ q, v7.ownBlock = some q → R0 q ∨ w4.heap.size ≤ q := by
 have h1 : ExtQ (fun i => R0 i ∨ w4.heap.size ≤ i) w4 w7 := ((hx.mono fun i hi => .inl hi).trans (ExtQ.of he)).trans (ExtQ.grown hg fun q hq => hob q hq)
 refine ⟨h1.a6b fun i hi hq => hq.elim id fun e => by omega, fun q hq => ?_⟩
 rcases hat with e | e
 · rw [e] at hq; exact hob q hq
 rw [e] at hq;injection hq with hq
 have := hx.size;have := he.size;exact .inr (by omega)
theorem b1T (w : World) (x : Pl.Ar) : OE 144 w.heap.size (w.alloc (.cells (encA.enc x).toArray 144)) (.slice (some ⟨w.heap.size, 0, none⟩) 1 1) [x] := by
 unfold OE;exact World.ownsRow_lit w _ 1 (Nat.le_refl _) (by unfold maxLen; omega) rfl
attribute [local irreducible] RE OE a00
theorem a9R (d : Nat) (v : Value) (l : List Nd) (out i0 : Int) (irest : List Int) (lp : Nat) (w : World) (hv : a00 d w v l) (hlp : lp < l.length) (hin : (l[lp]).ins = i0 :: irest) (hb1 : 1 ≤ (l[lp]).body.length) (hbl : (l[lp]).body.length ≤ 100) :
 Calls Tryz.prog 169 #[gAg v out, .int .i64 lp] w fun e w' => ∃ u, e = .returned u ∧ OE 144 w.heap.size w' u (Pl.a3B lp i0 (l[lp]).body) ∧ Ext w w' := by
 have HBG10 := hid (fun w' (he : Ext w w') => a57 d v l out 10 lp w' (hv.ext he) hlp hbl)
 have HBG11 := hid (fun w' (he : Ext w w') => a57 d v l out 11 lp w' (hv.ext he) hlp hbl)
 obtain ⟨A, c, rfl⟩ := hv.form;have HX0 := hid ((Ext.refl w).alloc (gCs (.slice A l.length c) out));have HB0 := hid (Blk.new w 24 #[.slice A l.length c, .int .i64 out]);have hv0 := hv.ext HX0.o;have q1 : (lp : Int) < (l.length : Int) := by omega
 obtain ⟨bA, oA, u, bv, rfl, e0, e1, e2, e3, e4, e5, hu, hbv⟩ := hv0.at_ hlp;rw [hin] at hu;have hbg := Pl.a4e lp 10 (l[lp]).body 0;have hbg2 := Pl.a4e lp 11 (l[lp]).body 0;generalize (l[lp]).body = body at *;have HRL := hid (show Pl.a3B lp i0 body = ((((((lp : Nat) : Int), (body.length : Int) - 1), (((lp : Nat) : Int), (-1 : Int))), (true, (0 : Int))) : Pl.Ar) :: ((Pl.bgF lp 10 body 0).flatMap (Pl.a6N lp i0 body.length) ++ (Pl.bgF lp 11 body 0).map (Pl.a9b lp body.length)) from rfl);generalize Pl.a3B lp i0 body = RL at *;generalize Pl.bgF lp 10 body 0 = BV at *;generalize Pl.bgF lp 11 body 0 = BO at *;obtain ⟨Ab, cb, rfl⟩ := hbv.form;obtain ⟨Au, cu, rfl⟩ := hu.form;obtain ⟨bU, oU, rfl, hcU⟩ := hu.at_ (i := 0) (by simp)
 have i0c : (w.alloc (gCs (.slice (some ⟨bA, oA, none⟩) l.length c) out)).cell? ⟨bU, oU, none⟩ = some (.int .i64 i0) := by have := hcU 0 _ rfl; simpa using this
 have hil : ((0 : Int) < ((i0 :: irest).length : Int)) := by simp
 obtain ⟨bn, hbn⟩ : ∃ bn, body.length = bn + 1 := ⟨body.length - 1, by omega⟩
 have u1 : ((body.length : Int) - 1) = (bn : Int) := by omega
 have u2 : IntKind.i64.wrap (bn : Int) = (bn : Int) := IntWalk.i64_in _ (by omega)
 have HBN := hid u1;have HBL := hid (show BV.length ≤ 100 ∧ BO.length ≤ 100 from ⟨by omega, by omega⟩)
 generalize (i0 :: irest).length = il at *;have hbl9 : (body.length : Int) ≤ 100 := by omega
 clear hv hv0 hlp hbl e0 e2 e3 e4 hu hbv hin hb1 hbg hbg2 hcU hbn
 go_enter Tryz.func169, Tryz.ntmps169
 go_upto_region 1 with fail
 obtain ⟨p, hp⟩ : ∃ p, p = w.heap.size := ⟨_, rfl⟩;rw [← hp] at HB0 ⊢;have HPS := hid hp;clear hp;generalize w.alloc (gCs (.slice (some ⟨bA, oA, none⟩) l.length c) out) = w0 at *;have c0 := HB0.o.c0;have c1 := HB0.o.c1
 go_upto_region 2 with fail
 have HX1 := hid ((Ext.refl w0).alloc (.cells #[.int .i64 i0, .int .i64 (-1)] 27));have HI := hid (Blk.new w0 27 #[.int .i64 i0, .int .i64 (-1)]);have HE5 := hid (HX1.o.cell e5);obtain ⟨pi, hpi⟩ : ∃ p, p = w0.heap.size := ⟨_, rfl⟩;rw [← hpi] at HI ⊢;clear hpi c0 c1 e1 e5 i0c;generalize w0.alloc (.cells #[.int .i64 i0, .int .i64 (-1)] 27) = w1 at *;have c0 := (HB0.o.ext HX1.o).c0;have c1 := (HB0.o.ext HX1.o).c1;have e5 := HE5.o
 go_upto_region 3 with fail
 have HX2 := hid ((Ext.refl w1).alloc (.cells #[.int .i64 (lp : Int), .int .i64 (bn : Int)] 27));have HLA := hid (Blk.new w1 27 #[.int .i64 (lp : Int), .int .i64 (bn : Int)]);obtain ⟨pl, hpl⟩ : ∃ p, p = w1.heap.size := ⟨_, rfl⟩;rw [← hpl] at HLA ⊢;clear hpl c0 c1 e5 HE5;have HI2 := hid (HI.o.ext HX2.o);have HX02 := hid (HX0.o.trans (HX1.o.trans HX2.o));have HB2 := hid (HB0.o.ext (HX1.o.trans HX2.o));generalize w1.alloc (.cells #[.int .i64 (lp : Int), .int .i64 (bn : Int)] 27) = w2 at *;have l0 := HLA.o.c0;have l1 := HLA.o.c1;have HO3 := hid (b1T w2 ((((lp : Int), (bn : Int)), ((lp : Int), (-1 : Int))), (true, (0 : Int))));have HX3 := hid ((Ext.refl w2).alloc (.cells (encA.enc ((((lp : Int), (bn : Int)), ((lp : Int), (-1 : Int))), (true, (0 : Int)))).toArray 144));obtain ⟨LA, hLA⟩ : ∃ LA : Pl.Ar, LA = ((((lp : Int), (bn : Int)), ((lp : Int), (-1 : Int))), (true, (0 : Int))) := ⟨_, rfl⟩;rw [← hLA] at HO3;have HLAE := hid hLA;clear hLA HB0 HI HX0 HX1 HX2;have HPB3 := hid (show p < w2.heap.size ∧ pi < w2.heap.size ∧ pl < w2.heap.size from ⟨HB2.o.lt, HI2.o.lt, HLA.o.lt⟩);have HX23 := hid (HX02.o.trans HX3.o);have HI3 := hid (HI2.o.ext HX3.o);have HL3 := hid (HLA.o.ext HX3.o);have HB3 := hid (HB2.o.ext HX3.o);have hsame : w2.alloc (.cells (encA.enc (((((lp : Int), (bn : Int)), ((lp : Int), (-1 : Int))), (true, (0 : Int))) : Pl.Ar)).toArray 144) = w2.alloc (.cells #[.int .i64 (lp : Int), .int .i64 (bn : Int), .int .i64 (lp : Int), .int .i64 (-1), .bool true, .int .i64 0] 144) := rfl;rw [← HLAE.o] at hsame;have HSM := hid hsame;clear hsame
 go_upto_region 4 with fail
 rw [← HLAE.o] at HX23 HI3 HL3 HB3 HX3;rw [← HSM.o];have HZ2 := hid (show w.heap.size ≤ w2.heap.size from HX02.o.size);obtain ⟨b0, hb0⟩ : ∃ b0, b0 = w2.heap.size := ⟨_, rfl⟩;rw [← hb0] at HO3 HZ2 HPB3 ⊢;have HB3S := hid (show b0 < (w2.alloc (.cells (encA.enc LA).toArray 144)).heap.size from by rw [hb0]; simp)
 have HB0S := hid hb0;clear HI2 HLA HB2 HX02 HSM l0 l1 hb0;generalize w2.alloc (.cells (encA.enc LA).toArray 144) = w3 at *;have c0 := HB3.o.c0;have c1 := HB3.o.c1
 go_wp2_with fail
 refine (HBG10.o w3 HX23.o).mono ?_;rintro e w4 ⟨uv, rfl, huv, he4⟩;obtain ⟨AV, cV, rfl⟩ := huv.re.form;have HV4 := hid (show ∀ W, ExtQ (fun i => i = b0) w4 W → RE W (.slice AV BV.length cV) BV from fun W hW => (OE.extK huv hW (fun q hq e => by have h1 := (huv.own.lt q hq).1; have h2 := HB3S.o; omega)).re)
 have HX4 := hid (HX23.o.trans he4);have HI4 := hid (HI3.o.ext he4);have HL4 := hid (HL3.o.ext he4);have HB4 := hid (HB3.o.ext he4);have HO4 := hid (HO3.o.ext he4);have HZ4 := hid (show b0 < w4.heap.size from Nat.lt_of_lt_of_le HB3S.o he4.size);have HPB := hid (show p < b0 ∧ pi < b0 ∧ pl < b0 from HPB3.o);clear huv he4 c0 c1 HX23 HI3 HL3 HB3 HO3 HX3
 go_wp2
 go_loopw [7, 41] (fun o iv wr => ∃ k : Nat, k ≤ BV.length ∧ iv = .int .i64 (k : Int) ∧ OE 144 b0 wr o (LA :: (BV.take k).flatMap (Pl.a6N lp i0 body.length)) ∧ ExtQ (fun i => i = b0) w4 wr ∧ (∀ q, o.ownBlock = some q → q = b0 ∨ w4.heap.size ≤ q)) (fun _ iv _ => BV.length - (intOf iv).toNat)
 case atStart => exact ⟨0, Nat.zero_le _, rfl, HO4.o, ExtQ.refl _ _, fun q hq => .inl (by injection hq with hq; exact hq.symm)⟩
 case round =>
 obtain ⟨k, hk, rfl, ho, hx, hob⟩ := hrel;rename World => wr
 have HO := hid ho;have HX := hid hx;have HOB := hid hob;obtain ⟨AO, cO, hvo⟩ := ho.re.form;have hfl := Pl.a3N lp i0 body.length (BV.take k);rw [List.length_take] at hfl;have HFL := hid hfl;have HIW := hid (HI4.o.a0Q hx (fun e => by have := HPB.o; omega))
 have HLW := hid (HL4.o.a0Q hx (fun e => by have := HPB.o; omega))
 have HBW := hid (HB4.o.a0Q hx (fun e => by have := HPB.o; omega))
 have HVW := hid (HV4.o wr hx);clear ho hx hob hfl
 by_cases hlt : k < BV.length
 · have r1 : (k : Int) < (BV.length : Int) := by omega
   have HLT := hid hlt;obtain ⟨bB, oB, hAV, hcV⟩ := RE.at_ HVW.o hlt;have HTK := hid (Pl.a9Q (lp := lp) (i0 := i0) (n := body.length) hlt);generalize BV[k] = y at *;obtain ⟨y1, y2⟩ := y;obtain ⟨FK, hFK⟩ : ∃ FK : List Pl.Ar, FK = LA :: (BV.take k).flatMap (Pl.a6N lp i0 body.length) := ⟨_, rfl⟩;have HFK := hid (show FK.length ≤ 300 ∧ LA :: (BV.take (k + 1)).flatMap (Pl.a6N lp i0 body.length) = FK ++ Pl.a6N lp i0 body.length (y1, y2) from ⟨by rw [hFK, List.length_cons]; have h1 := HFL.o; have h3 := HBL.o; omega, by rw [HTK.o, hFK]; rfl⟩)
   rw [← hFK] at HO hvo;clear hFK HTK HFL;have k0 : wr.cell? ⟨bB, oB + k * 2, none⟩ = some (.int .i64 y1) := hcV 0 _ rfl;have k1 : wr.cell? ⟨bB, oB + k * 2 + 1, none⟩ = some (.int .i64 y2) := hcV 1 _ rfl;subst hAV;subst hvo;have HXN := hid ((Ext.refl wr).alloc (.cells #[.int .i64 y1, .int .i64 y2] 27));have HYN := hid (Blk.new wr 27 #[.int .i64 y1, .int .i64 y2]);clear hcV hlt hk
   go_upto_region 7 with fail
   clear k0 k1;obtain ⟨q, hq⟩ : ∃ q, q = wr.heap.size := ⟨_, rfl⟩;rw [← hq] at HYN ⊢;clear hq;have HO1 := hid (HO.o.ext HXN.o);have HIN := hid (HIW.o.ext HXN.o);have HLN := hid (HLW.o.ext HXN.o);have HXE := hid HXN.o;generalize wr.alloc (.cells #[.int .i64 y1, .int .i64 y2] 27) = w5 at *;have a0 := HIN.o.c0;have a1 := HIN.o.c1;have b0' : w5.cell? ⟨pl, 0, none⟩ = some (.int .i64 (lp : Int)) := HLN.o.cell 0;have b1' : w5.cell? ⟨pl, 1, none⟩ = some (.int .i64 (bn : Int)) := HLN.o.cell 1;have d0 := HYN.o.c0;have d1 := HYN.o.c1;have HVA := hid (show Pl.a6N lp i0 body.length (y1, y2) = [((((i0, (-1 : Int)), (y1, y2)), (true, (0 : Int))) : Pl.Ar), ((((lp : Int), (bn : Int)), (y1, y2)), (false, (1 : Int)))] from by unfold Pl.a6N; rw [HBN.o])
   have HL1 := hid (RE.lit w5 #[.int .i64 i0, .int .i64 (-1), .int .i64 y1, .int .i64 y2, .bool true, .int .i64 0, .int .i64 (lp : Int), .int .i64 (bn : Int), .int .i64 y1, .int .i64 y2, .bool false, .int .i64 1] 144 2 [((((i0, (-1 : Int)), (y1, y2)), (true, (0 : Int))) : Pl.Ar), ((((lp : Int), (bn : Int)), (y1, y2)), (false, (1 : Int)))] rfl (by omega) rfl)
   have HXA := hid ((Ext.refl w5).alloc (.cells #[.int .i64 i0, .int .i64 (-1), .int .i64 y1, .int .i64 y2, .bool true, .int .i64 0, .int .i64 (lp : Int), .int .i64 (bn : Int), .int .i64 y1, .int .i64 y2, .bool false, .int .i64 1] 144));have HOL := hid (HO1.o.ext HXA.o);have HXB := hid (HXE.o.trans HXA.o);have hk9 : (k : Int) + 1 ≤ 1000 := by have h1 := HLT.o; have h2 := HBL.o; omega
   go_wp2_with (at_builtin; refine a1d rfl a5L _ _ _ rfl b0 _ _ FK [((((i0, (-1 : Int)), (y1, y2)), (true, (0 : Int))) : Pl.Ar), ((((lp : Int), (bn : Int)), (y1, y2)), (false, (1 : Int)))] rfl HOL.o rfl HL1.o (by have h1 := HFK.o.1; simp; omega) (by have h1 := HFK.o.1; unfold maxLen; simp; omega) (by have h1 := HZ4.o; have h2 := HX.o.size; have h3 := HXB.o.size; omega) ?_; intro v7 w7 ho7 hg7 hat7)
   obtain ⟨hx7, hob7⟩ := stepB HX.o HOB.o HXB.o hg7 hat7;exact ⟨⟨k + 1, HLT.o, by go_num, by rw [HFK.o.2, HVA.o]; exact ho7, hx7, hob7⟩, by have := HLT.o; simp [intOf]; omega⟩
 have r1 : ¬ (k : Int) < (BV.length : Int) := by omega
 obtain rfl : k = BV.length := by omega
 rw [List.take_length] at HO HFL;obtain ⟨FL, hFL⟩ : ∃ FL, FL = BV.flatMap (Pl.a6N lp i0 body.length) := ⟨_, rfl⟩;rw [← hFL] at HO HRL;have HFS := hid (show FL.length ≤ 200 from by rw [hFL, Pl.a3N]; have := HBL.o; omega)
 rw [List.take_length, ← hFL] at hvo;obtain ⟨FK, hFK⟩ : ∃ FK : List Pl.Ar, FK = LA :: FL := ⟨_, rfl⟩;rw [← hFK] at HO hvo;have HFK := hid (show FK.length ≤ 300 ∧ FK = LA :: FL from ⟨by rw [hFK, List.length_cons]; have := HFS.o; omega, hFK⟩)
 subst hvo;clear hFL HFL hlt hk hFK;have c0 := HBW.o.c0;have c1 := HBW.o.c1
 go_wp2_with fail
 refine (HBG11.o wr ((HX4.o.a4N HX.o (fun i hi => by have h1 := HPB.o; have h2 := HPS.o; have h3 := HZ2.o; omega)))).mono ?_
 rintro e w6 ⟨uo, rfl, huo, he6⟩;obtain ⟨AU, cU, rfl⟩ := huo.re.form;have HXW := hid (((HX4.o.a4N HX.o (fun i hi => by have h1 := HPB.o; have h2 := HPS.o; have h3 := HZ2.o; omega))).trans he6)
 have HV6 := hid (show ∀ W, ExtQ (fun i => i = b0 ∨ (Value.slice AO FK.length cO).ownBlock = some i) w6 W → RE W (.slice AU BO.length cU) BO from fun W hW => (OE.extK huo hW (fun q hq e => by
  have h1 := (huo.own.lt q hq).1
  rcases e with e | e
  · have h2 := HZ4.o; have h3 := HX.o.size; omega
  have h2 := (HO.o.own.lt q e).2; omega)).re)
 have HO6 := hid (HO.o.ext he6);have HL6 := hid (HLW.o.ext he6);have HOW := hid (show ∀ q, (Value.slice AO FK.length cO).ownBlock = some q → (q = b0 ∨ w4.heap.size ≤ q) ∧ q < wr.heap.size from fun q hq => ⟨HOB.o q hq, (HO.o.own.lt q hq).2⟩)
 have HZ6 := hid (show wr.heap.size ≤ w6.heap.size ∧ w4.heap.size ≤ wr.heap.size from ⟨he6.size, HX.o.size⟩);clear huo he6 c0 c1 HVW HIW HLW HBW HO HX HX4;obtain ⟨R0, hR0⟩ : ∃ R0 : Nat → Prop, R0 = fun i => i = b0 ∨ (Value.slice AO FK.length cO).ownBlock = some i := ⟨_, rfl⟩
 have HR0 := hid (show ∀ i, R0 i ↔ (i = b0 ∨ (Value.slice AO FK.length cO).ownBlock = some i) from fun i => by rw [hR0])
 rw [← hR0] at HV6;clear hR0
 go_wp2
 go_loopw [7, 61] (fun o iv wx => ∃ k : Nat, k ≤ BO.length ∧ iv = .int .i64 (k : Int) ∧ OE 144 b0 wx o (FK ++ (BO.take k).map (Pl.a9b lp body.length)) ∧ ExtQ R0 w6 wx ∧ (∀ q, o.ownBlock = some q → R0 q ∨ w6.heap.size ≤ q)) (fun _ iv _ => BO.length - (intOf iv).toNat)
 case atStart => exact ⟨0, Nat.zero_le _, rfl, by simpa using HO6.o, ExtQ.refl _ _, fun q hq => .inl ((HR0.o q).2 (.inr hq))⟩
 case round =>
 obtain ⟨k, hk, rfl, ho, hx, hob⟩ := hrel;rename World => wx
 have HO := hid ho;have HX := hid hx;have HOB := hid hob;obtain ⟨AX, cX, hvo⟩ := ho.re.form
 have HLW := hid (HL6.o.a0Q hx (fun e => by
  have h1 := HPB.o
  rcases (HR0.o _).1 e with e | e
  · omega
  have h2 := (HOW.o _ e).1; have h3 := HZ4.o; omega))
 have HVW := hid (HV6.o wx hx);clear ho hx hob
 by_cases hlt : k < BO.length
 · have r1 : (k : Int) < (BO.length : Int) := by omega
   have HLT := hid hlt;obtain ⟨bB, oB, hAV, hcV⟩ := RE.at_ HVW.o hlt;have HTK := hid (Pl.map_take (lp := lp) (n := body.length) hlt);generalize BO[k] = y at *;obtain ⟨y1, y2⟩ := y;obtain ⟨FM, hFM⟩ : ∃ FM : List Pl.Ar, FM = FK ++ (BO.take k).map (Pl.a9b lp body.length) := ⟨_, rfl⟩;have HFM := hid (show FM.length ≤ 400 ∧ FK ++ (BO.take (k + 1)).map (Pl.a9b lp body.length) = FM ++ [Pl.a9b lp body.length (y1, y2)] from ⟨by rw [hFM, List.length_append, List.length_map, List.length_take]; have h1 := HFK.o.1; have h3 := HBL.o; omega, by rw [HTK.o, hFM, List.append_assoc]⟩)
   rw [← hFM] at HO hvo;clear hFM HTK;have k0 : wx.cell? ⟨bB, oB + k * 2, none⟩ = some (.int .i64 y1) := hcV 0 _ rfl;have k1 : wx.cell? ⟨bB, oB + k * 2 + 1, none⟩ = some (.int .i64 y2) := hcV 1 _ rfl;subst hAV;subst hvo;have HXN := hid ((Ext.refl wx).alloc (.cells #[.int .i64 y1, .int .i64 y2] 27));have HYN := hid (Blk.new wx 27 #[.int .i64 y1, .int .i64 y2]);clear hcV hlt hk
   go_upto_region 12 with fail
   clear k0 k1;obtain ⟨q, hq⟩ : ∃ q, q = wx.heap.size := ⟨_, rfl⟩;rw [← hq] at HYN ⊢;clear hq;have HO1 := hid (HO.o.ext HXN.o);have HLN := hid (HLW.o.ext HXN.o);have HXE := hid HXN.o;generalize wx.alloc (.cells #[.int .i64 y1, .int .i64 y2] 27) = w5 at *;have b0' : w5.cell? ⟨pl, 0, none⟩ = some (.int .i64 (lp : Int)) := HLN.o.cell 0;have b1' : w5.cell? ⟨pl, 1, none⟩ = some (.int .i64 (bn : Int)) := HLN.o.cell 1;have d0 := HYN.o.c0;have d1 := HYN.o.c1;have HVA := hid (show Pl.a9b lp body.length (y1, y2) = ((((lp : Int), (bn : Int)), (y1, y2)), (false, (1 : Int))) from by unfold Pl.a9b; rw [HBN.o])
   have HL1 := hid (RE.lit w5 #[.int .i64 (lp : Int), .int .i64 (bn : Int), .int .i64 y1, .int .i64 y2, .bool false, .int .i64 1] 144 1 [((((lp : Int), (bn : Int)), (y1, y2)), (false, (1 : Int)))] rfl (by omega) rfl)
   have HXA := hid ((Ext.refl w5).alloc (.cells #[.int .i64 (lp : Int), .int .i64 (bn : Int), .int .i64 y1, .int .i64 y2, .bool false, .int .i64 1] 144));have HOL := hid (HO1.o.ext HXA.o);have HXB := hid (HXE.o.trans HXA.o);have hk9 : (k : Int) + 1 ≤ 1000 := by have h1 := HLT.o; have h2 := HBL.o; omega
   go_wp2_with (at_builtin; refine a1d rfl a5L _ _ _ rfl b0 _ _ FM [((((lp : Int), (bn : Int)), (y1, y2)), (false, (1 : Int)))] rfl HOL.o rfl HL1.o (by have h1 := HFM.o.1; simp; omega) (by have h1 := HFM.o.1; unfold maxLen; simp; omega) (by have h1 := HZ4.o; have h2 := HX.o.size; have h3 := HXB.o.size; have h4 := HZ6.o; omega) ?_; intro v7 w7 ho7 hg7 hat7)
   obtain ⟨hx7, hob7⟩ := b3C HX.o HOB.o HXB.o hg7 hat7;exact ⟨⟨k + 1, HLT.o, by go_num, by rw [HFM.o.2, HVA.o]; exact ho7, hx7, hob7⟩, by have := HLT.o; simp [intOf]; omega⟩
 have r1 : ¬ (k : Int) < (BO.length : Int) := by omega
 obtain rfl : k = BO.length := by omega
 rw [List.take_length] at HO hvo;obtain ⟨FM, hFM⟩ : ∃ FM : List Pl.Ar, FM = FK ++ BO.map (Pl.a9b lp body.length) := ⟨_, rfl⟩;rw [← hFM] at HO hvo;have HRF := hid (show FM = RL from by rw [hFM, HRL.o, HFK.o.2, HLAE.o, List.cons_append, HBN.o])
 clear hFM;have HF := hid (show OE 144 w.heap.size wx _ RL from by rw [← HRF.o]; exact OE.low HO.o HZ2.o)
 have HG := hid (show Ext w wx from by
  have h1 := HXW.o
  exact h1.a4N HX.o (fun i hi => by
   have h2 := HZ2.o
   rcases (HR0.o i).1 hi with e | e
   · omega
   have h3 := (HOW.o _ e).1; have h4 := HZ4.o; omega))
 subst hvo;clear hk hlt
 go_wp2
 go_ret
 exact ⟨_, rfl, HF.o, HG.o⟩
end Go.Proofs.YtdkejfjcchlnpaaGreat
