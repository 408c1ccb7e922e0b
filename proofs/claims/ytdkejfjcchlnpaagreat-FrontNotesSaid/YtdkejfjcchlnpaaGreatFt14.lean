/-
  GrNodeR, packed: what the claim needs of them.
-/
import Derived.Test.YtdkejfjcchlnpaaGreatFt13
set_option maxHeartbeats 40000000
open Go.Lib (hid)
set_option linter.unusedSimpArgs false
set_option linter.unusedVariables false
set_option maxRecDepth 100000
namespace Go.Proofs.YtdkejfjcchlnpaaGreat
open Go.RowKit Go.Ox Go.Ox.Gr
def pB (a b c d : Int) : Bool := decide ((a, b) = (c, d))
theorem pB_t {a b c d : Int} (h : (a, b) = (c, d)) : pB a b c d = true := by unfold pB; simpa using h
theorem pB_f {a b c d : Int} (h : (a, b) ≠ (c, d)) : pB a b c d = false := by unfold pB; simpa using h
theorem pB_e (a b c d : Int) : pB a b c d = ((a == c) && (b == d)) := by
 unfold pB; rw [Bool.eq_iff_iff]; simp
theorem a7O (a b c d : Int) (w : World) : (Op.equalIn 10000 27 (.agg #[.int .i64 a, .int .i64 b]) (.agg #[.int .i64 c, .int .i64 d])).run Tryz.prog w = .ok (pB a b c d) w := by
 have u3 := Tryz.underlying3;have a3 := Tryz.isAgg3;have z3 := Tryz.sizeOf3;have hS : Tryz.prog.underlying 27 = some (.struct (Tryz.prog.fieldsOf 27)) := by kernel_rfl
 have hp : Tryz.prog.stoodInHeld 27 = false := by kernel_rfl
 rw [show (10000 : Nat) = 9999 + 1 from rfl, run_equalIn_agg w 9999 27 _ _ hS hp];simp only [Program.fieldsOf, Tryz.underlying27];rw [pB_e];go_simp
 by_cases h1 : a = c <;> by_cases h2 : b = d <;> simp [h1, h2]
theorem b5o (a b c d : Int) (w : World) : (binOp .eql 27 (.agg #[.int .i64 a, .int .i64 b]) (.agg #[.int .i64 c, .int .i64 d])).run Tryz.prog w = .ok (.bool (pB a b c d)) w := by
 rw [run_eql_struct, a7O]; rfl
theorem nePl (a b c d : Int) (w : World) : (binOp .neq 27 (.agg #[.int .i64 a, .int .i64 b]) (.agg #[.int .i64 c, .int .i64 d])).run Tryz.prog w = .ok (.bool (!pB a b c d)) w := by
 rw [run_neq_struct, a7O]; rfl
theorem rp2 {w : World} {A : Option Addr} {n c : Nat} {l : List Pl} (h : RE w (.slice A n c) l) {k : Nat} (hk : k < l.length) :
 ∃ b o, A = some ⟨b, o, none⟩ ∧ w.cell? ⟨b, o + k * 2, none⟩ = some (.int .i64 l[k].1) ∧ w.cell? ⟨b, o + k * 2 + 1, none⟩ = some (.int .i64 l[k].2) := by
 obtain ⟨b, o, e, h2⟩ := h.at_ hk;exact ⟨b, o, e, h2 0 _ rfl, h2 1 _ rfl⟩
attribute [local irreducible] RE OE a00
theorem a7P (d : Nat) (v : Value) (l : List Nd) (out : Int) (i : Nat) (op kind fa a : Int) (ins : List Int) (body : List Nd) (w00 w : World) (hv0 : a00 d w00 v l) (he0 : Ext w00 w) (hl : l.length <= 100) (hbl : ∀ n ∈ l, n.body.length <= 100) (hni : l[i]? = some (.mk op ins kind fa a body)) (hat : (((i : Int), (-1 : Int)) : Pl) ∈ a0a l) :
 Calls Tryz.prog 52 #[gAg v out, plV ((i : Int), (-1))] w fun e w' => ∃ u b, e = .returned (.tuple #[a1e op kind fa a u b, .bool true]) ∧ RE w00 u ins ∧ a00 (d - 1) w00 b body ∧ Ext w w' := by
 have hv := hv0.ext he0;obtain ⟨A, c, rfl⟩ := hv.form;have HX0 := hid ((((Ext.refl w).alloc (gCs (.slice A l.length c) out)).alloc (a2x (i : Int) (-1))).alloc (a0m 0 0 0 0 (.slice none 0 0) (.slice none 0 0)));have HB0 := hid (show BN3 (((w.alloc (gCs (.slice A l.length c) out)).alloc (a2x (i : Int) (-1))).alloc (a0m 0 0 0 0 (.slice none 0 0) (.slice none 0 0))) w.heap.size (.slice A l.length c) out (i : Int) (-1) from BN3.new w (.slice A l.length c) out (i : Int) (-1));have HPL := hid (fun w h => a0X d (.slice A l.length c) l out w h hl hbl)
 have HLN := hid (show (a0a l).length <= 10100 by have := a16 l l.length hbl hl; rwa [List.take_length] at this)
 have HV := hid (hv.ext HX0.o);have HV0 := hid hv0;have HE0 := hid he0;clear hv0 he0;have HNI := hid hni;have HAT := hid hat;clear hni hat;clear hv hl hbl
 go_enter Tryz.func52, Tryz.ntmps52
 go_upto_region 1 with fail
 obtain ⟨p, hp⟩ : ∃ p, p = w.heap.size := ⟨_, rfl⟩;rw [<- hp] at HB0 ⊢;have HP := hid hp;clear hp;generalize ((w.alloc (gCs (.slice A l.length c) out)).alloc (a2x (i : Int) (-1))).alloc (a0m 0 0 0 0 (.slice none 0 0) (.slice none 0 0)) = w0 at *;obtain ⟨a0, a1, a2, a3⟩ := HB0.o.cells
 go_wp2_with fail
 refine (HPL.o _ HV.o).mono ?_;rintro e w1 ⟨up, rfl, hpl, he1⟩;have HS1 := hid hpl.re;obtain ⟨AP, cP, rfl⟩ := hpl.re.form;have HX1 := hid (HX0.o.trans he1);have HB1 := hid (HB0.o.ext he1);have HV1 := hid (HV.o.ext he1);clear he1 a0 a1 a2 a3 hpl;generalize hpp : a0a l = pl at *;have HPP := hid hpp;clear hpp
 go_wp2
 go_loopw [7] (fun iv wr => ∃ k : Nat, k <= pl.length ∧ iv = .int .i64 (k : Int) ∧ (((i : Int), (-1)) : Pl) ∉ pl.take k ∧ Ext w1 wr) (fun iv _ => pl.length - (intOf iv).toNat)
 case atStart => exact ⟨0, Nat.zero_le _, rfl, by simp, Ext.refl _⟩
 case round =>
 obtain ⟨k, hk, rfl, hno, hext⟩ := hrel;have HNO := hid hno;have HE := hid hext;have HBR := hid (HB1.o.ext hext);have HSR := hid (HS1.o.ext hext);have HVR := hid (HV1.o.ext hext);have hkb : k <= 10100 := by have := HLN.o; omega
 clear hno;obtain ⟨a0, a1, a2, a3⟩ := HBR.o.cells
 by_cases hlt : k < pl.length
 . have q1 : (k : Int) < (pl.length : Int) := by omega
   have q0 : 0 <= (k : Int) := by omega
   have q1n : k < pl.length := hlt;have HLT := hid hlt;obtain ⟨bA, oA, rfl, y0, y1⟩ := rp2 HSR.o hlt
   have HTK := hid (show (((i : Int), (-1)) : Pl) ≠ pl[k] -> (((i : Int), (-1)) : Pl) ∉ pl.take (k + 1) from fun hne hm => by
    rw [List.take_succ_eq_append_getElem hlt, List.mem_append] at hm
    rcases hm with hm | hm
    . exact HNO.o hm
    exact hne (List.mem_singleton.1 hm))
   have HMM := hid (List.getElem_mem hlt);generalize pl[k] = x at *;obtain ⟨x1, x2⟩ := x;dsimp only at y0 y1;have heq := b5o;clear hext hk hlt
   by_cases hq : (x1, x2) = ((i : Int), (-1))
   . have hd := pB_t hq
     clear hq HTK
     go_wp2
     refine yx ?_;refine ya ?_;refine yl2 y0 y1 ?_;refine yl2 a2 a3 ?_;refine a0j rfl rfl (a03 rfl) Ext.refl rfl ?_; apply Exists.intro; refine ⟨?_, ?_⟩
     . intro a w' hR h1 h2
       have e1 : _ = _ := h1;have e2 : _ = _ := h2;have hq9 := heq x1 x2 (i : Int) (-1) w';rw [hd] at hq9;go_simp;rfl
     refine a01 ?_;intro w5 hx5 hS
     iterate 6 (rintro _ rfl)
     dsimp only [a0y];go_simp;have hx5 : Ext wr w5 := hx5;have HX5 := hid ((HX1.o.trans HE.o).trans hx5);have HB5 := hid (HBR.o.ext hx5);clear hx5 hS y0 y1 a0 a1 a2 a3 heq hd q1 q0;obtain ⟨a0, a1, a2, a3⟩ := HB5.o.cells;obtain ⟨⟨r0, r1, r2, r3, r4, r5⟩, f0, f1, f2, f3, f4, f5⟩ := HB5.o.a4C;obtain ⟨hil, hix⟩ := List.getElem?_eq_some_iff.1 HNI.o;obtain ⟨bG, oG, u, bv, rfl, e0, e1, e2, e3, e4, e5, hu, hbv⟩ := HV0.o.at_ hil;rw [hix] at e0 e2 e3 e4 hu hbv;simp only [Nd.op, Nd.kind, Nd.fa, Nd.a, Nd.ins, Nd.body] at e0 e2 e3 e4 hu hbv;have q1 : (i : Int) < (l.length : Int) := by omega
     have q1n : i < l.length := hil;have q0 : 0 <= (i : Int) := by omega
     have e0 := HX5.o.cell (HE0.o.cell e0);have e1 := HX5.o.cell (HE0.o.cell e1);have e2 := HX5.o.cell (HE0.o.cell e2);have e3 := HX5.o.cell (HE0.o.cell e3);have e4 := HX5.o.cell (HE0.o.cell e4);have e5 := HX5.o.cell (HE0.o.cell e5);have HU0 := hid hu;have HW0 := hid hbv;obtain ⟨Au, cu, rfl⟩ := hu.form;obtain ⟨Ab, cb, rfl⟩ := hbv.form;clear hu hbv hix hil;have HF := hid (HB5.o.r.fill (.int .i64 op) (.slice Au ins.length cu) (.int .i64 kind) (.int .i64 fa) (.int .i64 a) (.slice Ab body.length cb));have HXQ := hid (a3G (ExtQ.refl (fun k => k = p + 1 + 1) w5) (q := p + 1 + 1) rfl (.int .i64 op) (.slice Au ins.length cu) (.int .i64 kind) (.int .i64 fa) (.int .i64 a) (.slice Ab body.length cb))
     have HX4 := hid (HX5.o.a3Z HXQ.o (fun g hg => by have h1 := HP.o; omega))
     go_wp2
     generalize (((((w5.setCell ⟨p + 1 + 1, 0, none⟩ (.int .i64 op)).setCell ⟨p + 1 + 1, 1, none⟩ (.slice Au ins.length cu)).setCell ⟨p + 1 + 1, 2, none⟩ (.int .i64 kind)).setCell ⟨p + 1 + 1, 3, none⟩ (.int .i64 fa)).setCell ⟨p + 1 + 1, 4, none⟩ (.int .i64 a)).setCell ⟨p + 1 + 1, 5, none⟩ (.slice Ab body.length cb) = wz at *;obtain ⟨y0, y1, y2, y3, y4, y5⟩ := HF.o.at_;exact bodyPost_ret (v := .tuple #[a1e op kind fa a (.slice Au ins.length cu) (.slice Ab body.length cb), .bool true]) (by simp [results, Tryz.results52, go_sem, y0, y1, y2, y3, y4, y5]) rfl ⟨_, _, rfl, HU0.o, HW0.o, HX4.o⟩
   have hd := pB_f hq;have HN2 := hid (HTK.o fun e => hq e.symm)
   clear hq
   go_wp2
   refine yx ?_;refine ya ?_;refine yl2 y0 y1 ?_;refine yl2 a2 a3 ?_;refine a0j rfl rfl (a03 rfl) Ext.refl rfl ?_; apply Exists.intro; refine ⟨?_, ?_⟩
   . intro a w' hR h1 h2
     have e1 : _ = _ := h1;have e2 : _ = _ := h2;have hq9 := heq x1 x2 (i : Int) (-1) w';rw [hd] at hq9;go_simp;rfl
   refine a01 ?_;intro w5 hx5 hS
   iterate 6 (rintro _ rfl)
   dsimp only [a0y];go_simp;have hx5 : Ext wr w5 := hx5;have HX5 := hid (HE.o.trans hx5);clear hx5 hS y0 y1 a0 a1 a2 a3 heq hd
   go_wp2
   exact ⟨⟨k + 1, HLT.o, by go_num, HN2.o, HX5.o⟩, by have := HLT.o; simp [intOf]; omega⟩
 obtain rfl : k = pl.length := by omega
 have q1 : ¬ (pl.length : Int) < (pl.length : Int) := by omega
 exact absurd HAT.o (by have h := HNO.o; rw [List.take_length] at h; exact h)
theorem a9A (d : Nat) (v : Value) (l : List Nd) (out : Int) (i j : Nat) (op kind fa a : Int) (ins : List Int) (body : List Nd) (mop mkind mfa ma : Int) (mins : List Int) (mbody : List Nd) (w00 w : World) (hv0 : a00 d w00 v l) (he0 : Ext w00 w) (hl : l.length <= 100) (hbl : ∀ n ∈ l, n.body.length <= 100) (hni : l[i]? = some (.mk op ins kind fa a body)) (hmi : body[j]? = some (.mk mop mins mkind mfa ma mbody)) (hat : (((i : Int), (j : Int)) : Pl) ∈ a0a l) :
 Calls Tryz.prog 52 #[gAg v out, plV ((i : Int), (j : Int))] w fun e w' => ∃ u b, e = .returned (.tuple #[a1e mop mkind mfa ma u b, .bool true]) ∧ RE w00 u mins ∧ a00 (d - 1 - 1) w00 b mbody ∧ Ext w w' := by
 have hv := hv0.ext he0;obtain ⟨A, c, rfl⟩ := hv.form;have HX0 := hid ((((Ext.refl w).alloc (gCs (.slice A l.length c) out)).alloc (a2x (i : Int) (j : Int))).alloc (a0m 0 0 0 0 (.slice none 0 0) (.slice none 0 0)));have HB0 := hid (show BN3 (((w.alloc (gCs (.slice A l.length c) out)).alloc (a2x (i : Int) (j : Int))).alloc (a0m 0 0 0 0 (.slice none 0 0) (.slice none 0 0))) w.heap.size (.slice A l.length c) out (i : Int) (j : Int) from BN3.new w (.slice A l.length c) out (i : Int) (j : Int));have HPL := hid (fun w h => a0X d (.slice A l.length c) l out w h hl hbl)
 have HLN := hid (show (a0a l).length <= 10100 by have := a16 l l.length hbl hl; rwa [List.take_length] at this)
 have HV := hid (hv.ext HX0.o);have HV0 := hid hv0;have HE0 := hid he0;clear hv0 he0;have HNI := hid hni;have HMI := hid hmi;have HAT := hid hat;clear hni hmi hat;clear hv hl hbl
 go_enter Tryz.func52, Tryz.ntmps52
 go_upto_region 1 with fail
 obtain ⟨p, hp⟩ : ∃ p, p = w.heap.size := ⟨_, rfl⟩;rw [<- hp] at HB0 ⊢;have HP := hid hp;clear hp;generalize ((w.alloc (gCs (.slice A l.length c) out)).alloc (a2x (i : Int) (j : Int))).alloc (a0m 0 0 0 0 (.slice none 0 0) (.slice none 0 0)) = w0 at *;obtain ⟨a0, a1, a2, a3⟩ := HB0.o.cells
 go_wp2_with fail
 refine (HPL.o _ HV.o).mono ?_;rintro e w1 ⟨up, rfl, hpl, he1⟩;have HS1 := hid hpl.re;obtain ⟨AP, cP, rfl⟩ := hpl.re.form;have HX1 := hid (HX0.o.trans he1);have HB1 := hid (HB0.o.ext he1);have HV1 := hid (HV.o.ext he1);clear he1 a0 a1 a2 a3 hpl;generalize hpp : a0a l = pl at *;have HPP := hid hpp;clear hpp
 go_wp2
 go_loopw [7] (fun iv wr => ∃ k : Nat, k <= pl.length ∧ iv = .int .i64 (k : Int) ∧ (((i : Int), (j : Int)) : Pl) ∉ pl.take k ∧ Ext w1 wr) (fun iv _ => pl.length - (intOf iv).toNat)
 case atStart => exact ⟨0, Nat.zero_le _, rfl, by simp, Ext.refl _⟩
 case round =>
 obtain ⟨k, hk, rfl, hno, hext⟩ := hrel;have HNO := hid hno;have HE := hid hext;have HBR := hid (HB1.o.ext hext);have HSR := hid (HS1.o.ext hext);have HVR := hid (HV1.o.ext hext);have hkb : k <= 10100 := by have := HLN.o; omega
 clear hno;obtain ⟨a0, a1, a2, a3⟩ := HBR.o.cells
 by_cases hlt : k < pl.length
 . have q1 : (k : Int) < (pl.length : Int) := by omega
   have q0 : 0 <= (k : Int) := by omega
   have q1n : k < pl.length := hlt;have HLT := hid hlt;obtain ⟨bA, oA, rfl, y0, y1⟩ := rp2 HSR.o hlt
   have HTK := hid (show (((i : Int), (j : Int)) : Pl) ≠ pl[k] -> (((i : Int), (j : Int)) : Pl) ∉ pl.take (k + 1) from fun hne hm => by
    rw [List.take_succ_eq_append_getElem hlt, List.mem_append] at hm
    rcases hm with hm | hm
    . exact HNO.o hm
    exact hne (List.mem_singleton.1 hm))
   have HMM := hid (List.getElem_mem hlt);generalize pl[k] = x at *;obtain ⟨x1, x2⟩ := x;dsimp only at y0 y1;have heq := b5o;clear hext hk hlt
   by_cases hq : (x1, x2) = ((i : Int), (j : Int))
   . have hd := pB_t hq
     clear hq HTK
     go_wp2
     refine yx ?_;refine ya ?_;refine yl2 y0 y1 ?_;refine yl2 a2 a3 ?_;refine a0j rfl rfl (a03 rfl) Ext.refl rfl ?_; apply Exists.intro; refine ⟨?_, ?_⟩
     . intro a w' hR h1 h2
       have e1 : _ = _ := h1;have e2 : _ = _ := h2;have hq9 := heq x1 x2 (i : Int) (j : Int) w';rw [hd] at hq9;go_simp;rfl
     refine a01 ?_;intro w5 hx5 hS
     iterate 6 (rintro _ rfl)
     dsimp only [a0y];go_simp;have hx5 : Ext wr w5 := hx5;have HX5 := hid ((HX1.o.trans HE.o).trans hx5);have HB5 := hid (HBR.o.ext hx5);clear hx5 hS y0 y1 a0 a1 a2 a3 heq hd q1 q0;obtain ⟨a0, a1, a2, a3⟩ := HB5.o.cells;obtain ⟨⟨r0, r1, r2, r3, r4, r5⟩, f0, f1, f2, f3, f4, f5⟩ := HB5.o.a4C;obtain ⟨hil, hix⟩ := List.getElem?_eq_some_iff.1 HNI.o;obtain ⟨bG, oG, u, bv, rfl, e0, e1, e2, e3, e4, e5, hu, hbv⟩ := HV0.o.at_ hil;rw [hix] at e0 e2 e3 e4 hu hbv;simp only [Nd.op, Nd.kind, Nd.fa, Nd.a, Nd.ins, Nd.body] at e0 e2 e3 e4 hu hbv;have q1 : (i : Int) < (l.length : Int) := by omega
     have q1n : i < l.length := hil;have q0 : 0 <= (i : Int) := by omega
     have e0 := HX5.o.cell (HE0.o.cell e0);have e1 := HX5.o.cell (HE0.o.cell e1);have e2 := HX5.o.cell (HE0.o.cell e2);have e3 := HX5.o.cell (HE0.o.cell e3);have e4 := HX5.o.cell (HE0.o.cell e4);have e5 := HX5.o.cell (HE0.o.cell e5);have HU0 := hid hu;have HW0 := hid hbv;obtain ⟨Au, cu, rfl⟩ := hu.form;obtain ⟨Ab, cb, rfl⟩ := hbv.form;clear hu hbv hix hil;obtain ⟨hjl, hmx⟩ := List.getElem?_eq_some_iff.1 HMI.o;have hjn : j < body.length := hjl;have hjb : (j : Int) < (body.length : Int) := by omega
     have hj0 : 0 <= (j : Int) := by omega
     have hjz : ¬ (j : Int) < 0 := by omega
     obtain ⟨bB, oB, mu, mb, rfl, m0, m1, m2, m3, m4, m5, hmu, hmb⟩ := HW0.o.at_ hjl;rw [hmx] at m0 m2 m3 m4 hmu hmb;simp only [Nd.op, Nd.kind, Nd.fa, Nd.a, Nd.ins, Nd.body] at m0 m2 m3 m4 hmu hmb;have m0 := HX5.o.cell (HE0.o.cell m0);have m1 := HX5.o.cell (HE0.o.cell m1);have m2 := HX5.o.cell (HE0.o.cell m2);have m3 := HX5.o.cell (HE0.o.cell m3);have m4 := HX5.o.cell (HE0.o.cell m4);have m5 := HX5.o.cell (HE0.o.cell m5);have HMU := hid hmu;have HMB := hid hmb;obtain ⟨Am, cm, rfl⟩ := hmu.form;obtain ⟨Ax, cx, rfl⟩ := hmb.form;clear hmu hmb hmx hjl
     go_wp2
     refine a0c 11 [] [] Ext Ext (fun _ => True) (by kernel_rfl) (by kernel_rfl) (by kernel_rfl) (by kernel_rfl) (by kernel_rfl) (by kernel_rfl) (by kernel_rfl) (by rfl) (by rfl) (by kernel_rfl) (by kernel_rfl) (by kernel_rfl) (fun _ _ _ x y => x.trans y) Ext.refl (fun _ _ x => x) (Ext.refl _).drew (fun _ _ x _ => x) trivial ?_
     refine ya ?_;refine yl1 a0 ?_;refine ya ?_;refine yl1 a2 ?_;refine ya ?_;refine yl1 e5 ?_;refine ya ?_;refine yl1 a3 ?_;refine ya ?_;refine yl6 m0 m1 m2 m3 m4 m5 ?_;refine ya ?_;refine a01 ?_;intro w6 hx6 hS6
     iterate 11 (rintro _ rfl)
     dsimp only [a0y];go_simp;have hx6 : Ext w5 w6 := hx6;have HB6 := hid (HB5.o.ext hx6);have HX6 := hid (HX5.o.trans hx6);clear hx6 hS6 a0 a1 a2 a3 r0 r1 r2 r3 r4 r5 f0 f1 f2 f3 f4 f5 m0 m1 m2 m3 m4 m5 e0 e1 e2 e3 e4 e5;obtain ⟨⟨r0, r1, r2, r3, r4, r5⟩, f0, f1, f2, f3, f4, f5⟩ := HB6.o.a4C;have HF := hid (HB6.o.r.fill (.int .i64 mop) (.slice Am mins.length cm) (.int .i64 mkind) (.int .i64 mfa) (.int .i64 ma) (.slice Ax mbody.length cx));have HXQ := hid (a3G (ExtQ.refl (fun k => k = p + 1 + 1) w6) (q := p + 1 + 1) rfl (.int .i64 mop) (.slice Am mins.length cm) (.int .i64 mkind) (.int .i64 mfa) (.int .i64 ma) (.slice Ax mbody.length cx))
     have HX4 := hid (HX6.o.a3Z HXQ.o (fun g hg => by have h1 := HP.o; omega))
     simp only [a0n, List.drop_succ_cons, List.drop_zero]
     go_wp2
     generalize (((((w6.setCell ⟨p + 1 + 1, 0, none⟩ (.int .i64 mop)).setCell ⟨p + 1 + 1, 1, none⟩ (.slice Am mins.length cm)).setCell ⟨p + 1 + 1, 2, none⟩ (.int .i64 mkind)).setCell ⟨p + 1 + 1, 3, none⟩ (.int .i64 mfa)).setCell ⟨p + 1 + 1, 4, none⟩ (.int .i64 ma)).setCell ⟨p + 1 + 1, 5, none⟩ (.slice Ax mbody.length cx) = wz at *;obtain ⟨y0, y1, y2, y3, y4, y5⟩ := HF.o.at_;exact bodyPost_ret (v := .tuple #[a1e mop mkind mfa ma (.slice Am mins.length cm) (.slice Ax mbody.length cx), .bool true]) (by simp [results, Tryz.results52, go_sem, y0, y1, y2, y3, y4, y5]) rfl ⟨_, _, rfl, HMU.o, HMB.o, HX4.o⟩
   have hd := pB_f hq;have HN2 := hid (HTK.o fun e => hq e.symm)
   clear hq
   go_wp2
   refine yx ?_;refine ya ?_;refine yl2 y0 y1 ?_;refine yl2 a2 a3 ?_;refine a0j rfl rfl (a03 rfl) Ext.refl rfl ?_; apply Exists.intro; refine ⟨?_, ?_⟩
   . intro a w' hR h1 h2
     have e1 : _ = _ := h1;have e2 : _ = _ := h2;have hq9 := heq x1 x2 (i : Int) (j : Int) w';rw [hd] at hq9;go_simp;rfl
   refine a01 ?_;intro w5 hx5 hS
   iterate 6 (rintro _ rfl)
   dsimp only [a0y];go_simp;have hx5 : Ext wr w5 := hx5;have HX5 := hid (HE.o.trans hx5);clear hx5 hS y0 y1 a0 a1 a2 a3 heq hd
   go_wp2
   exact ⟨⟨k + 1, HLT.o, by go_num, HN2.o, HX5.o⟩, by have := HLT.o; simp [intOf]; omega⟩
 obtain rfl : k = pl.length := by omega
 have q1 : ¬ (pl.length : Int) < (pl.length : Int) := by omega
 exact absurd HAT.o (by have h := HNO.o; rw [List.take_length] at h; exact h)
theorem b0D (d : Nat) (v : Value) (l : List Nd) (out : Int) (i j : Int) (w : World) (hv : a00 d w v l) (hl : l.length <= 100) (hbl : ∀ n ∈ l, n.body.length <= 100) (hin : ((i, j) : Pl) ∉ a0a l) :
 Calls Tryz.prog 52 #[gAg v out, plV (i, j)] w fun e w' => e = .returned (.tuple #[b69, .bool false]) ∧ Ext w w' := by
 obtain ⟨A, c, rfl⟩ := hv.form;have HX0 := hid ((((Ext.refl w).alloc (gCs (.slice A l.length c) out)).alloc (a2x i j)).alloc (a0m 0 0 0 0 (.slice none 0 0) (.slice none 0 0)));have HB0 := hid (show BN3 (((w.alloc (gCs (.slice A l.length c) out)).alloc (a2x i j)).alloc (a0m 0 0 0 0 (.slice none 0 0) (.slice none 0 0))) w.heap.size (.slice A l.length c) out i j from BN3.new w (.slice A l.length c) out i j);have HPL := hid (fun w h => a0X d (.slice A l.length c) l out w h hl hbl)
 have HLN := hid (show (a0a l).length <= 10100 by have := a16 l l.length hbl hl; rwa [List.take_length] at this)
 have HV := hid (hv.ext HX0.o);have HV0 := hid hv;have HIN := hid hin;clear hin;clear hv hl hbl
 go_enter Tryz.func52, Tryz.ntmps52
 go_upto_region 1 with fail
 obtain ⟨p, hp⟩ : ∃ p, p = w.heap.size := ⟨_, rfl⟩;rw [<- hp] at HB0 ⊢;have HP := hid hp;clear hp;generalize ((w.alloc (gCs (.slice A l.length c) out)).alloc (a2x i j)).alloc (a0m 0 0 0 0 (.slice none 0 0) (.slice none 0 0)) = w0 at *;obtain ⟨a0, a1, a2, a3⟩ := HB0.o.cells
 go_wp2_with fail
 refine (HPL.o _ HV.o).mono ?_;rintro e w1 ⟨up, rfl, hpl, he1⟩;have HS1 := hid hpl.re;obtain ⟨AP, cP, rfl⟩ := hpl.re.form;have HX1 := hid (HX0.o.trans he1);have HB1 := hid (HB0.o.ext he1);have HV1 := hid (HV.o.ext he1);clear he1 a0 a1 a2 a3 hpl;generalize hpp : a0a l = pl at *;have HPP := hid hpp;clear hpp
 go_wp2
 go_loopw [7] (fun iv wr => ∃ k : Nat, k <= pl.length ∧ iv = .int .i64 (k : Int) ∧ ((i, j) : Pl) ∉ pl.take k ∧ Ext w1 wr) (fun iv _ => pl.length - (intOf iv).toNat)
 case atStart => exact ⟨0, Nat.zero_le _, rfl, by simp, Ext.refl _⟩
 case round =>
 obtain ⟨k, hk, rfl, hno, hext⟩ := hrel;have HNO := hid hno;have HE := hid hext;have HBR := hid (HB1.o.ext hext);have HSR := hid (HS1.o.ext hext);have HVR := hid (HV1.o.ext hext);have hkb : k <= 10100 := by have := HLN.o; omega
 clear hno;obtain ⟨a0, a1, a2, a3⟩ := HBR.o.cells
 by_cases hlt : k < pl.length
 . have q1 : (k : Int) < (pl.length : Int) := by omega
   have q0 : 0 <= (k : Int) := by omega
   have q1n : k < pl.length := hlt;have HLT := hid hlt;obtain ⟨bA, oA, rfl, y0, y1⟩ := rp2 HSR.o hlt
   have HTK := hid (show ((i, j) : Pl) ≠ pl[k] -> ((i, j) : Pl) ∉ pl.take (k + 1) from fun hne hm => by
    rw [List.take_succ_eq_append_getElem hlt, List.mem_append] at hm
    rcases hm with hm | hm
    . exact HNO.o hm
    exact hne (List.mem_singleton.1 hm))
   have HMM := hid (List.getElem_mem hlt);generalize pl[k] = x at *;obtain ⟨x1, x2⟩ := x;dsimp only at y0 y1;have heq := b5o;clear hext hk hlt
   by_cases hq : (x1, x2) = (i, j)
   . have hd := pB_t hq
     exact absurd (show ((i, j) : Pl) ∈ pl from by rw [<- hq]; exact HMM.o) HIN.o
   have hd := pB_f hq;have HN2 := hid (HTK.o fun e => hq e.symm)
   clear hq
   go_wp2
   refine yx ?_;refine ya ?_;refine yl2 y0 y1 ?_;refine yl2 a2 a3 ?_;refine a0j rfl rfl (a03 rfl) Ext.refl rfl ?_; apply Exists.intro; refine ⟨?_, ?_⟩
   . intro a w' hR h1 h2
     have e1 : _ = _ := h1;have e2 : _ = _ := h2;have hq9 := heq x1 x2 i j w';rw [hd] at hq9;go_simp;rfl
   refine a01 ?_;intro w5 hx5 hS
   iterate 6 (rintro _ rfl)
   dsimp only [a0y];go_simp;have hx5 : Ext wr w5 := hx5;have HX5 := hid (HE.o.trans hx5);clear hx5 hS y0 y1 a0 a1 a2 a3 heq hd
   go_wp2
   exact ⟨⟨k + 1, HLT.o, by go_num, HN2.o, HX5.o⟩, by have := HLT.o; simp [intOf]; omega⟩
 obtain rfl : k = pl.length := by omega
 have q1 : ¬ (pl.length : Int) < (pl.length : Int) := by omega
 obtain ⟨⟨r0, r1, r2, r3, r4, r5⟩, f0, f1, f2, f3, f4, f5⟩ := HBR.o.a4C;have HF := hid (HBR.o.r.fill (.int .i64 0) (.slice none 0 0) (.int .i64 0) (.int .i64 0) (.int .i64 0) (.slice none 0 0));have HXQ := hid (a3G (ExtQ.refl (fun k => k = p + 1 + 1) wr) (q := p + 1 + 1) rfl (.int .i64 0) (.slice none 0 0) (.int .i64 0) (.int .i64 0) (.int .i64 0) (.slice none 0 0))
 have HX4 := hid ((HX1.o.trans HE.o).a3Z HXQ.o (fun g hg => by have h1 := HP.o; omega))
 clear hext hk hlt
 go_wp2
 generalize (((((wr.setCell ⟨p + 1 + 1, 0, none⟩ (.int .i64 0)).setCell ⟨p + 1 + 1, 1, none⟩ (.slice none 0 0)).setCell ⟨p + 1 + 1, 2, none⟩ (.int .i64 0)).setCell ⟨p + 1 + 1, 3, none⟩ (.int .i64 0)).setCell ⟨p + 1 + 1, 4, none⟩ (.int .i64 0)).setCell ⟨p + 1 + 1, 5, none⟩ (.slice none 0 0) = wz at *;obtain ⟨y0, y1, y2, y3, y4, y5⟩ := HF.o.at_;exact bodyPost_ret (v := .tuple #[b69, .bool false]) (by simp [results, Tryz.results52, go_sem, y0, y1, y2, y3, y4, y5]) rfl ⟨rfl, HX4.o⟩
end Go.Proofs.YtdkejfjcchlnpaaGreat
