/-
  GrNodeR, PlEq, PlBeg, packed: what the claim needs of them.
-/
import Derived.Test.YtdkejfjcchlnpaaGreatFn17
set_option maxHeartbeats 40000000
open Go.Lib (hid)
set_option linter.unusedSimpArgs false
set_option linter.unusedVariables false
set_option maxRecDepth 100000
namespace Go.Proofs.YtdkejfjcchlnpaaGreat
open Go.RowKit Go.Ox Go.Ox.Gr
def pB (a b c d : Int) : Bool := decide ((a, b) = (c, d))
theorem pB_t {a b c d : Int} (h : (a, b) = (c, d)) : pB a b c d = true := by unfold pB; simpa using h
theorem pB_f {a b c d : Int} (h : (a, b) ≠ (c, d)) : pB a b c d = false := by unfold pB; simpa using h
theorem pB_e (a b c d : Int) : pB a b c d = ((a == c) && (b == d)) := by
 unfold pB; rw [Bool.eq_iff_iff]; simp
theorem a6p (a b c d : Int) (w : World) : (Op.equalIn 10000 27 (.agg #[.int .i64 a, .int .i64 b]) (.agg #[.int .i64 c, .int .i64 d])).run Tryz.prog w = .ok (pB a b c d) w := by
 have u3 := Tryz.underlying3;have a3 := Tryz.isAgg3;have z3 := Tryz.sizeOf3;have hS : Tryz.prog.underlying 27 = some (.struct (Tryz.prog.fieldsOf 27)) := by kernel_rfl
 have hp : Tryz.prog.stoodInHeld 27 = false := by kernel_rfl
 rw [show (10000 : Nat) = 9999 + 1 from rfl, run_equalIn_agg w 9999 27 _ _ hS hp];simp only [Program.fieldsOf, Tryz.underlying27];rw [pB_e];go_simp
 by_cases h1 : a = c <;> by_cases h2 : b = d <;> simp [h1, h2]
theorem eqPl (a b c d : Int) (w : World) : (binOp .eql 27 (.agg #[.int .i64 a, .int .i64 b]) (.agg #[.int .i64 c, .int .i64 d])).run Tryz.prog w = .ok (.bool (pB a b c d)) w := by
 rw [run_eql_struct, a6p]; rfl
theorem nePl (a b c d : Int) (w : World) : (binOp .neq 27 (.agg #[.int .i64 a, .int .i64 b]) (.agg #[.int .i64 c, .int .i64 d])).run Tryz.prog w = .ok (.bool (!pB a b c d)) w := by
 rw [run_neq_struct, a6p]; rfl
attribute [local irreducible] RE OE a00
end Go.Proofs.YtdkejfjcchlnpaaGreat
namespace Go.Ox.Pl
def ddF (x : Ar) : List Ar → List Ar
 | [] => []
 | y :: r => if y.1 = x.1 then ddF y r else y :: ddF y r
def dd : List Ar → List Ar
 | [] => []
 | x :: r => x :: ddF x r
theorem a7O : ∀ (r : List Ar) (x : Ar) (j : Nat) (hj : j < r.length), ddF x (r.take (j + 1)) = ddF x (r.take j) ++ (if r[j].1 = ((x :: r)[j]'(by simp; omega)).1 then [] else [r[j]])
 | [], x, j, h => by simp at h
 | z :: r, x, 0, h => by
  simp only [List.take_succ_cons, List.take_zero, ddF, List.getElem_cons_zero, List.nil_append]
 | z :: r, x, j + 1, h => by
  have ih := a7O r z j (by simpa using h)
  rw [List.take_succ_cons, List.take_succ_cons, ddF, ddF, ih];simp only [List.getElem_cons_succ]
  by_cases q : z.1 = x.1
  · rw [if_pos q, if_pos q]
  · rw [if_neg q, if_neg q]; rfl
theorem a9P {l : List Ar} {j : Nat} (h0 : 0 < j) (hj : j < l.length) : dd (l.take (j + 1)) = dd (l.take j) ++ (if l[j].1 = l[j - 1].1 then [] else [l[j]]) := by
 obtain ⟨x, r, rfl⟩ : ∃ x r, l = x :: r := by
  cases l with
  | nil => simp at hj
  | cons x r => exact ⟨x, r, rfl⟩
 obtain ⟨j, rfl⟩ : ∃ i, j = i + 1 := ⟨j - 1, by omega⟩
 have hr : j < r.length := by simpa using hj
 rw [List.take_succ_cons, List.take_succ_cons, dd, dd, a7O r x j hr];simp only [List.getElem_cons_succ, Nat.add_sub_cancel];rfl
theorem dd_one {l : List Ar} (h : 0 < l.length) : dd (l.take 1) = l.take 1 := by
 cases l with
 | nil => simp at h
 | cons x r => simp [dd, ddF]
theorem b1R {l : List Ar} (h : l.length < 2) : dd l = l := by
 match l, h with
 | [], _ => rfl
 | [x], _ => rfl
end Go.Ox.Pl
namespace Go.Proofs.YtdkejfjcchlnpaaGreat
open Go.RowKit Go.Ox Go.Shelf Go.Sort Go.Ox.Gr
theorem a5L : Elem Tryz.prog 138 144 (.agg #[.int .i64 0, .int .i64 0, .int .i64 0, .int .i64 0, .bool false, .int .i64 0]) 6 48 := Elem.mk' Tryz.underlying138 (by kernel_rfl) rfl (by omega)
theorem b3B (a b c d : Int) (w : World) : (binOp .eql 27 (.agg #[.int .i64 a, .int .i64 b]) (.agg #[.int .i64 c, .int .i64 d])).run Tryz.prog w = .ok (.bool (decide ((a, b) = (c, d)))) w := by
 rw [eqPl]
 have h : pB a b c d = decide ((a, b) = (c, d)) := by
  unfold pB
  by_cases h1 : a = c <;> by_cases h2 : b = d <;> simp [h1, h2]
 rw [h]
theorem a6Z (x y : Pl.Ar) (w : World) : Calls Tryz.prog 174 #[arV x, arV y] w fun e w' => e = .returned (.bool (decide (x.1 = y.1))) ∧ a02 w w' := by
 obtain ⟨⟨⟨x1, x2⟩, x3, x4⟩, x5, x6⟩ := x;obtain ⟨⟨⟨y1, y2⟩, y3, y4⟩, y5, y6⟩ := y;dsimp only;have HE1 := hid (show ∀ w, _ from fun w => b3B x1 x2 y1 y2 w)
 have HE2 := hid (show ∀ w, _ from fun w => b3B x3 x4 y3 y4 w)
 have HD := hid (show decide (((x1, x2), (x3, x4)) = ((y1, y2), (y3, y4))) = (decide ((x1, x2) = (y1, y2)) && decide ((x3, x4) = (y3, y4))) from by
  by_cases h1 : (x1, x2) = (y1, y2) <;> by_cases h2 : (x3, x4) = (y3, y4) <;> simp [h1, h2])
 generalize decide (((x1, x2), (x3, x4)) = ((y1, y2), (y3, y4))) = r at *;generalize decide ((x1, x2) = (y1, y2)) = r1 at *;generalize decide ((x3, x4) = (y3, y4)) = r2 at *
 go_enter Tryz.func174, Tryz.ntmps174
 obtain ⟨w2, hw2, hx, c0, c1, c2, c3, d0, d1, d2, d3⟩ := box6 w 144 (.int .i64 x1) (.int .i64 x2) (.int .i64 x3) (.int .i64 x4) (.bool x5) (.int .i64 x6) (.int .i64 y1) (.int .i64 y2) (.int .i64 y3) (.int .i64 y4) (.bool y5) (.int .i64 y6);have HX := hid hx;have HW := hid hw2
 go_upto_region 1 with fail
 rw [← HW.o];clear hx hw2 HW;generalize w.heap.size = n at *;have he1 := HE1.o;have he2 := HE2.o
 cases r1 with
 | false =>
  obtain rfl := HD.o
  go_wp2
  go_ret
  exact ⟨rfl, HX.o⟩
 | true =>
 cases r2 with
 | false =>
  obtain rfl := HD.o
  go_wp2
  go_ret
  exact ⟨rfl, HX.o⟩
 | true =>
 obtain rfl := HD.o
 go_wp2
 go_ret
 exact ⟨rfl, HX.o⟩
end Go.Proofs.YtdkejfjcchlnpaaGreat
namespace Go.Ox.Pl
open Go.Ox.Gr
def bgF (lp op : Int) : List Nd → Nat → List (Int × Int)
 | [], _ => []
 | n :: r, k => if n.op = op then (lp, (k : Int)) :: bgF lp op r (k + 1) else bgF lp op r (k + 1)
theorem a4e (lp op : Int) : ∀ (l : List Nd) (k : Nat), (bgF lp op l k).length ≤ l.length
 | [], _ => by simp [bgF]
 | n :: r, k => by
  have := a4e lp op r (k + 1);unfold bgF
  split <;> simp <;> omega
theorem b1S {lp op : Int} {l : List Nd} {k : Nat} (h : k < l.length) : bgF lp op (l.drop k) k = if (l[k]).op = op then (lp, (k : Int)) :: bgF lp op (l.drop (k + 1)) (k + 1) else bgF lp op (l.drop (k + 1)) (k + 1) := by
 rw [List.drop_eq_getElem_cons h, bgF]
end Go.Ox.Pl
namespace Go.Proofs.YtdkejfjcchlnpaaGreat
open Go.RowKit Go.Ox Go.Ox.Gr
attribute [local irreducible] RE OE a00
theorem a57 (d : Nat) (v : Value) (l : List Nd) (out op : Int) (lp : Nat) (w : World) (hv : a00 d w v l) (hlp : lp < l.length) (hbl : (l[lp]).body.length ≤ 100) :
 Calls Tryz.prog 187 #[gAg v out, .int .i64 lp, .int .i64 op] w fun e w' => ∃ u, e = .returned u ∧ OE 27 w.heap.size w' u (Pl.bgF lp op (l[lp]).body 0) ∧ Ext w w' := by
 obtain ⟨A, c, rfl⟩ := hv.form;have HX0 := hid ((Ext.refl w).alloc (gCs (.slice A l.length c) out));have HB0 := hid (Blk.new w 24 #[.slice A l.length c, .int .i64 out]);have hv0 := hv.ext HX0.o;have q1 : (lp : Int) < (l.length : Int) := by omega
 obtain ⟨bA, oA, u, bv, rfl, e0, e1, e2, e3, e4, e5, hu, hbv⟩ := hv0.at_ hlp;generalize (l[lp]).body = body at *;obtain ⟨Ab, cb, rfl⟩ := hbv.form;have HBV := hid hbv;have HBL := hid hbl;have hb9 : (body.length : Int) ≤ 100 := by omega
 clear hv hv0 hlp hbl e0 e1 e2 e3 e4 hu hbv
 go_enter Tryz.func187, Tryz.ntmps187
 go_upto_region 1 with fail
 obtain ⟨p, hp⟩ : ∃ p, p = w.heap.size := ⟨_, rfl⟩;rw [← hp] at HB0 ⊢;have HPS := hid hp;clear hp;generalize w.alloc (gCs (.slice (some ⟨bA, oA, none⟩) l.length c) out) = w0 at *;have c0 := HB0.o.c0
 go_wp2
 clear c0 e5
 go_loopw [7, 17] (fun o iv wr => ∃ (k : Nat) (acc : List Pl), k ≤ body.length ∧ iv = .int .i64 (k : Int) ∧ acc.length ≤ k ∧ acc ++ Pl.bgF lp op (body.drop k) k = Pl.bgF lp op body 0 ∧ OE 27 w0.heap.size wr o acc ∧ Ext w0 wr) (fun _ iv _ => body.length - (intOf iv).toNat)
 case atStart => exact ⟨0, [], Nat.zero_le _, rfl, Nat.le_refl _, rfl, OE.a2F _ _ _, Ext.refl _⟩
 case round =>
 obtain ⟨k, acc, hk, rfl, hak, hsp, ho, hext⟩ := hrel;have HE := hid hext;have HO := hid ho;have HSP := hid hsp;have HAK := hid hak;obtain ⟨AO, cO, hvo⟩ := ho.re.form;clear hsp hak
 by_cases hlt : k < body.length
 · have r1 : (k : Int) < (body.length : Int) := by omega
   have HLT := hid hlt;have HDR := hid (Pl.b1S (lp := lp) (op := op) hlt);obtain ⟨bB, oB, u1, b1, rfl, f0, f1, f2, f3, f4, f5, hu1, hb1⟩ := (HBV.o.ext hext).at_ hlt;generalize body[k] = x at *;obtain ⟨xop, ins, kind, fa, a, bd⟩ := x;simp only [Nd.op, Nd.kind, Nd.fa, Nd.a, Nd.ins, Nd.body] at f0 f1 f2 f3 f4 f5 hu1 hb1;replace HDR := hid (show Pl.bgF lp op (body.drop k) k = if xop = op then ((lp : Int), (k : Int)) :: Pl.bgF lp op (body.drop (k + 1)) (k + 1) else Pl.bgF lp op (body.drop (k + 1)) (k + 1) from HDR.o)
   obtain ⟨Au, cu, rfl⟩ := hu1.form;obtain ⟨Ad, cd, rfl⟩ := hb1.form;subst hvo;have HXN := hid ((Ext.refl wr).alloc (a0i xop kind fa a (.slice Au ins.length cu) (.slice Ad bd.length cd)));have HBN := hid (Blk.new wr 101 #[.int .i64 xop, .slice Au ins.length cu, .int .i64 kind, .int .i64 fa, .int .i64 a, .slice Ad bd.length cd]);clear hu1 hb1 ho hext hk hlt
   go_upto_region 5 with fail
   clear f0 f1 f2 f3 f4 f5;obtain ⟨q, hq⟩ : ∃ q, q = wr.heap.size := ⟨_, rfl⟩;rw [← hq] at HBN ⊢;clear hq;have HO1 := hid (HO.o.ext HXN.o);have HE1 := hid (HE.o.trans HXN.o);generalize wr.alloc (a0i xop kind fa a (.slice Au ins.length cu) (.slice Ad bd.length cd)) = w1 at *;have n0 := HBN.o.c0;clear HXN HO HE
   by_cases hop : xop = op
   · subst hop
     have t1 : ((xop : Int) == xop) = true := by simp
     have HL1 := hid (RE.lit w1 #[.int .i64 (lp : Int), .int .i64 (k : Int)] 27 1 [((lp : Int), (k : Int))] rfl (by omega) rfl)
     have HXA := hid ((Ext.refl w1).alloc (.cells #[.int .i64 (lp : Int), .int .i64 (k : Int)] 27));have HOL := hid (HO1.o.ext HXA.o);have HXB := hid (HE1.o.trans HXA.o)
     go_wp2_with (at_builtin; refine a0y rfl a9J _ _ _ rfl w0.heap.size _ _ acc [((lp : Int), (k : Int))] rfl HOL.o rfl HL1.o (by have h1 := HAK.o; have h2 := HLT.o; have h3 := HBL.o; simp; omega) (by have h1 := HAK.o; have h2 := HLT.o; have h3 := HBL.o; unfold maxLen; simp; omega) HXB.o.size ?_; intro v7 w7 ho7 hg7 hat7)
     have HX7 := HXB.o.grown hat7 fun g hg => (HOL.o.own.lt g hg).1
     exact ⟨⟨k + 1, acc ++ [((lp : Int), (k : Int))], HLT.o, by go_num, by rw [List.length_append]; have := HAK.o; simp; omega, by rw [← HSP.o, HDR.o, if_pos rfl]; simp, ho7, HX7⟩, by have := HLT.o; simp [intOf]; omega⟩
   have t1 : ((xop : Int) == op) = false := by simpa using hop
   have HSP2 := hid (show acc ++ Pl.bgF lp op (body.drop (k + 1)) (k + 1) = Pl.bgF lp op body 0 from by rw [← HSP.o, HDR.o, if_neg hop])
   clear hop
   go_wp2
   exact ⟨⟨k + 1, acc, HLT.o, by go_num, by have := HAK.o; omega, HSP2.o, HO1.o, HE1.o⟩, by have := HLT.o; simp [intOf]; omega⟩
 have r1 : ¬ (k : Int) < (body.length : Int) := by omega
 subst hvo
 have HF := hid (show OE 27 w.heap.size wr (.slice AO acc.length cO) (Pl.bgF lp op body 0) from by
  have h := HSP.o;rw [show body.drop k = [] from List.drop_eq_nil_of_le (by omega), Pl.bgF, List.append_nil] at h
  rw [← h]
  exact HO.o.low HX0.o.size)
 have HG := hid (HX0.o.trans HE.o);clear ho hext hk hlt
 go_wp2
 go_ret
 exact ⟨_, rfl, HF.o, HG.o⟩
end Go.Proofs.YtdkejfjcchlnpaaGreat
