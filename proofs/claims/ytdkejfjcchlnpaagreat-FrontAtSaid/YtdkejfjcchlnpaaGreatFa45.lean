/-
  GrArgs, FrAtL, CntArgs, MomArgs, packed: what the claim needs of them.
-/
import Derived.Test.YtdkejfjcchlnpaaGreatFa43
import Derived.Test.YtdkejfjcchlnpaaGreatFa44
set_option maxHeartbeats 40000000
open Go.Lib (hid)
set_option linter.unusedSimpArgs false
set_option linter.unusedVariables false
set_option maxRecDepth 100000
namespace Go.Proofs.YtdkejfjcchlnpaaGreat
open Go.RowKit Go.Ox Go.Ox.Gr Go.ChangeShapes Go.WideShapes
section
variable {H : Type} {enc : TypeId × Value → H} {W : World} {base : Nat} {sp : Nat → Bool} {held : Bool} {v u : Value} {d : DataW H} {p : List MemPlace} {r : Reach} {b0 N : Nat}
theorem b3S {R : TypeId → Value → Prop} : ∀ (rows : List (List Value)), (∀ x ∈ rows, a7n R [.int .i64] x) → ∃ l : List Int, rows.length = l.length ∧ rows.flatten = eV l
 | [], _ => ⟨[], rfl, rfl⟩
 | r :: rows, h => by
  obtain ⟨l, h1, h2⟩ := b3S rows fun x hx => h x (List.mem_cons_of_mem _ hx)
  obtain ⟨n, cs, rfl, _, hr⟩ := a1W (h r (List.mem_cons_self ..));obtain rfl := a4P hr;exact ⟨n :: l, by simp [h1], by rw [List.flatten_cons, h2]; rfl⟩
theorem a9q (h : Was enc Tryz.prog W base sp held N 97 u) : ∃ l : List Int, RE W u l := by
 obtain ⟨rows, hr, -, hx⟩ := Was.rows (n := 8) (ks := [.int .i64]) Tryz.underlying97 (by kernel_rfl) (by kernel_rfl) (by decide) h
 obtain ⟨l, h1, h2⟩ := b3S rows hx;rw [h1, h2] at hr;exact ⟨l, RE.mk hr⟩
theorem a8x : ∀ (N : Nat) (u : Value), Was enc Tryz.prog W base sp held N 22 u → ∃ l : List Nd, a00 N W u l := by
 intro N
 induction N with
 | zero =>
  intro u h;obtain ⟨rows, hr, h0, hx⟩ := Was.rows (n := 8) (ks := [.int .i64, .cell 97, .int .i64, .int .i64, .int .i64, .cell 22]) Tryz.underlying22 (by kernel_rfl) (by kernel_rfl) (by decide) h
  obtain rfl : rows = [] := h0.elim id fun h => absurd h (Nat.lt_irrefl _)
  exact ⟨[], ⟨[], hr, rfl, fun i r x hr => by simp at hr⟩⟩
 | succ N ih =>
 intro u h;obtain ⟨rows, hr, h0, hx⟩ := Was.rows (n := 8) (ks := [.int .i64, .cell 97, .int .i64, .int .i64, .int .i64, .cell 22]) Tryz.underlying22 (by kernel_rfl) (by kernel_rfl) (by decide) h
 have each : ∀ r ∈ rows, r.length = 6 ∧ ∃ x : Nd, NdQ (a00 N) W r x := fun r hr2 => by
  have hr := hx r hr2;refine ⟨a6S hr, ?_⟩;obtain ⟨op, cs, rfl, _, hr⟩ := a1W hr;obtain ⟨u1, cs, rfl, hu1, hr⟩ := a5h hr;obtain ⟨kind, cs, rfl, _, hr⟩ := a1W hr;obtain ⟨fa, cs, rfl, _, hr⟩ := a1W hr;obtain ⟨a, cs, rfl, _, hr⟩ := a1W hr;obtain ⟨u2, cs, rfl, hu2, hr⟩ := a5h hr;obtain rfl := a4P hr;obtain ⟨ins, hins⟩ := a9q hu1;obtain ⟨body, hbody⟩ := ih _ hu2;exact ⟨.mk op ins kind fa a body, u1, u2, rfl, hins, hbody⟩
 obtain ⟨l, hl⟩ := RS.b68 hr each;exact ⟨l, a00.b0H hl⟩
abbrev GArg := (Value × Nat) × G
theorem b5r (hv : Value.okWide Tryz.prog W r b0 24 v) (h : DataW.Trod enc Tryz.prog W base sp held 24 v d p) :
 ∃ x : GArg, v = gAg x.1.1 x.2.2 ∧ a00 x.1.2 W x.1.1 x.2.1 := by
 obtain ⟨cs, N, rfl, hr⟩ := a2S (n := 8) (ks := [.cell 22, .int .i64]) (by kernel_rfl) Tryz.underlying24 hv h
 obtain ⟨u, cs, rfl, hu, hr⟩ := a5h hr;obtain ⟨out, cs, rfl, _, hr⟩ := a1W hr;obtain rfl := a4P hr;obtain ⟨l, hl⟩ := a8x N u hu;exact ⟨((u, N), l, out), rfl, hl⟩
theorem b5s (hv : Value.okWide Tryz.prog W r b0 27 v) (h : DataW.Trod enc Tryz.prog W base sp held 27 v d p) :
 ∃ x : Pl, v = plV x := by
 obtain ⟨cs, N, rfl, hr⟩ := a2S (n := 8) (ks := [.int .i64, .int .i64]) (by kernel_rfl) Tryz.underlying27 hv h
 obtain ⟨a, cs, rfl, _, hr⟩ := a1W hr;obtain ⟨b, cs, rfl, _, hr⟩ := a1W hr;obtain rfl := a4P hr;exact ⟨(a, b), rfl⟩
end
end Go.Proofs.YtdkejfjcchlnpaaGreat
namespace Go.Proofs.YtdkejfjcchlnpaaGreat
open Go.RowKit Go.Ox Go.Ox.Gr Go.Shelf Mo Ct
attribute [local irreducible] RE OE a00
theorem a9r (d : Nat) (v : Value) (g : G) (u : Value) (L0 : List Cnt.S) (q : Pl.P2) (m : Mom.M) (w : World) (hv : a00 d w v g.1) (hu : RE w u L0) :
 Calls Tryz.prog 4 #[gAg v g.2, u, plV q, mV m] w fun e w' => e = .returned (.bool true) ∧ Ext w w' := by
 have HLG := hid (fun B n k W (h : Ext w W) => a9o d v g B n k W (hv.ext h))
 have HFA := hid (fun n (h : Fr.a5O g n = false) => (show (gPl g).length ≤ 20 ∧ n ≤ 20 from ⟨Pl.b5m (Fr.b0m h).1, (Fr.b0m h).2⟩))
 have HCT := hid (fun (hl : L0.length ≤ 1000) W (h : Ext w W) => a8u u L0 W (hu.ext h) hl)
 have HAT := hid (fun (hn : (gPl g).length ≤ 20) L (hL : L.length ≤ 256) gc b W (h : Ext w W) (hc : CM W gc b L) => b3n d v g gc b L q W (hv.ext h) hn hc hL)
 have HPS := hid (fun (hn : (gPl g).length ≤ 20) L (hL : L.length ≤ 256) gc b W (h : Ext w W) (hc : CM W gc b L) => a3h d v g gc b L q m W (hv.ext h) hn hc hL)
 have HDU := hid (fun (hn : (gPl g).length ≤ 20) L (hL : L.length ≤ 256) gc b W (h : Ext w W) (hc : CM W gc b L) => a9j d v g gc b L q m W (hv.ext h) hn hc hL)
 have HRP := hid (fun (hn : (gPl g).length ≤ 20) L (hL : L.length ≤ 256) x W (h : Ext w W) (hx : RE W x L) => a9n d v g x L q m W (hv.ext h) hn hx (by omega))
 have HRD := hid (fun (hn : (gPl g).length ≤ 20) L (hL : L.length ≤ 256) x W (h : Ext w W) (hx : RE W x L) => b5o d v g x L q m W (hv.ext h) hn hx (by omega))
 have HRC := hid (fun (hok : gOk g = true) (hq : (gNd g q).isSome = true) (hn : (gPl g).length ≤ 20) L (hL : L.length ≤ 256) x W (h : Ext w W) (hx : RE W x L) => (show Calls Tryz.prog 24 #[gAg v g.2, x, plV q, .bool false, mV m] W fun e w' => ∃ u', e = .returned u' ∧ OE 29 W.heap.size w' u' (Fr.comes g L q Fr.no) ∧ Ext W w' from a4s d v g x L q false m W (hv.ext h) hok hn hq hx (by omega)))
 have HCK := hid (fun W (h : Ext w W) => a6C d v g.1 g.2 W (hv.ext h))
 have HPC := hid (fun (hok : gOk g = true) W (h : Ext w W) => a4r d v g q W (hv.ext h) hok)
 have HAN := hid (fun W (h : Ext w W) => at_nil d v g q W (hv.ext h))
 have HMY := hid (show Fr.may g q = if gOk g = true then (if (gNd g q).isSome = true then 0 else 1) else 170 from rfl)
 have HCL := hid (fun L => Fr.a2n g L q Fr.no)
 obtain ⟨l, out⟩ := g;simp only at HCK hv;generalize Fr.may (l, out) q = MY at *;generalize gOk (l, out) = ok at *;generalize (gNd (l, out) q).isSome = sq at *;generalize (gPl (l, out)).length = np at *;obtain ⟨A, c, rfl⟩ := hv.form;obtain ⟨AU, cU, rfl⟩ := hu.form;have HLG := hid (fun W h => HLG.o AU L0.length cU W h)
 have HFA := hid (HFA.o L0.length);generalize Fr.a5O (l, out) L0.length = LG at *;obtain ⟨q1, q2⟩ := q;obtain ⟨m1, m2⟩ := m;have HX := hid (show Ext w (((w.alloc (.cells #[.slice A l.length c, .int .i64 out] 24)).alloc (.cells #[.int .i64 q1, .int .i64 q2] 27)).alloc (.cells #[.int .i64 m1, .int .i64 m2] 29)) from a0g [(#[.slice A l.length c, .int .i64 out], 24), (#[.int .i64 q1, .int .i64 q2], 27), (#[.int .i64 m1, .int .i64 m2], 29)] w);have HB0 := hid (show Blk (((w.alloc (.cells #[.slice A l.length c, .int .i64 out] 24)).alloc (.cells #[.int .i64 q1, .int .i64 q2] 27)).alloc (.cells #[.int .i64 m1, .int .i64 m2] 29)) (w.heap.size) 24 #[.slice A l.length c, .int .i64 out] from a05 [(#[.slice A l.length c, .int .i64 out], 24), (#[.int .i64 q1, .int .i64 q2], 27), (#[.int .i64 m1, .int .i64 m2], 29)] w 0 _ _ rfl);have HB1 := hid (show Blk (((w.alloc (.cells #[.slice A l.length c, .int .i64 out] 24)).alloc (.cells #[.int .i64 q1, .int .i64 q2] 27)).alloc (.cells #[.int .i64 m1, .int .i64 m2] 29)) (w.heap.size + 1) 27 #[.int .i64 q1, .int .i64 q2] from a05 [(#[.slice A l.length c, .int .i64 out], 24), (#[.int .i64 q1, .int .i64 q2], 27), (#[.int .i64 m1, .int .i64 m2], 29)] w 1 _ _ rfl);have HB2 := hid (show Blk (((w.alloc (.cells #[.slice A l.length c, .int .i64 out] 24)).alloc (.cells #[.int .i64 q1, .int .i64 q2] 27)).alloc (.cells #[.int .i64 m1, .int .i64 m2] 29)) (w.heap.size + 1 + 1) 29 #[.int .i64 m1, .int .i64 m2] from a05 [(#[.slice A l.length c, .int .i64 out], 24), (#[.int .i64 q1, .int .i64 q2], 27), (#[.int .i64 m1, .int .i64 m2], 29)] w 2 _ _ rfl);clear hv hu
 go_enter Tryz.func4, Tryz.ntmps4
 go_upto_region 1 with fail
 generalize w.heap.size = bn at *;generalize ((w.alloc (.cells #[.slice A l.length c, .int .i64 out] 24)).alloc (.cells #[.int .i64 q1, .int .i64 q2] 27)).alloc (.cells #[.int .i64 m1, .int .i64 m2] 29) = w0 at *;have c00 := HB0.o.c0;have c01 := HB0.o.c1;have c10 := HB1.o.c0;have c11 := HB1.o.c1;have c20 := HB2.o.c0;have c21 := HB2.o.c1
 go_wp2_with fail
 refine (HLG.o w0 HX.o).mono ?_;rintro e w1 ⟨rfl, he⟩;clear c00 c01 c10 c11 c20 c21;have HX := hid (HX.o.trans he);have HB0 := hid (HB0.o.ext he);have HB1 := hid (HB1.o.ext he);have HB2 := hid (HB2.o.ext he);clear he
 cases LG with
 | true =>
  go_wp2_with fail
  refine (a5M w1).mono ?_;rintro e w2 ⟨rfl, he⟩;have HX := hid (HX.o.trans he);clear he
  go_wp2
  go_ret
  exact ⟨rfl, HX.o⟩
 | false =>
 have HN := hid (HFA.o (by first | rfl | trivial))
 clear HFA HLG
 go_wp2_with fail
 refine (HCT.o (by have := HN.o.2; omega) w1 HX.o).mono ?_
 rintro e w2 ⟨gc, b, us, rfl, _, _, hc, hs, he⟩;have hll := a7m L0 [];rw [List.length_nil, Nat.zero_add] at hll;have HL9 := hid (show (a8B [] L0).length ≤ 256 by have := HN.o.2; omega)
 have HAT9 := hid (HAT.o HN.o.1 _ HL9.o gc b);have HPS9 := hid (HPS.o HN.o.1 _ HL9.o gc b);have HDU9 := hid (HDU.o HN.o.1 _ HL9.o gc b);have HRP9 := hid (HRP.o HN.o.1 _ HL9.o);have HRD9 := hid (HRD.o HN.o.1 _ HL9.o);have HRC9 := hid (fun h1 h2 => HRC.o h1 h2 HN.o.1 _ HL9.o)
 have HCL9 := hid (Nat.le_trans (HCL.o (a8B [] L0)) HL9.o);generalize a8B [] L0 = L at *;clear HAT HPS HDU HRP HRD HRC HCL hll HCT;generalize Fr.comes (l, out) L (q1, q2) Fr.no = CL at *;generalize Fr.a2o (l, out) L (q1, q2) (m1, m2) = ps at *;generalize Fr.due (l, out) L (q1, q2) (m1, m2) = pd at *;have HFR := hid (fun x W (h : RE W x CL) => b1t x CL W (RE.rp h) (by have := HCL9.o; omega))
 have HSM := hid (fun x y F W (h1 : RP W x F) (h2 : RP W y F) => (show Calls Tryz.prog 22 #[x, y] W fun e w' => e = .returned (.bool true) ∧ Ext W w' from by
  have h3 := b09 x y F F W h1 h2
  rwa [decide_eq_true rfl] at h3))
 obtain ⟨AS, cS, rfl⟩ := hs.form;have HC := hid hc;have HS := hid hs;clear hc hs;have HX := hid (HX.o.trans he);have HB0 := hid (HB0.o.ext he);have HB1 := hid (HB1.o.ext he);have HB2 := hid (HB2.o.ext he);have HC := hid HC.o;clear he;have c00 := HB0.o.c0;have c01 := HB0.o.c1;have c10 := HB1.o.c0;have c11 := HB1.o.c1;have c20 := HB2.o.c0;have c21 := HB2.o.c1
 go_wp2_with fail
 refine (HAT9.o w2 HX.o HC.o).mono ?_;rintro e w3 ⟨uf, rfl, hf, he⟩;obtain ⟨FL2, hFL⟩ : ∃ FL, FL = (if MY = 0 then Mom.a1v CL else []) := ⟨_, rfl⟩
 rw [← hFL] at hf;obtain ⟨AF, cF, rfl⟩ := hf.form;have HF := hid hf;have HFL := hid hFL;clear hf hFL;clear c00 c01 c10 c11 c20 c21;have HC := hid (HC.o.ext he);have HS := hid (HS.o.ext he);have HX := hid (HX.o.trans he);have HB0 := hid (HB0.o.ext he);have HB1 := hid (HB1.o.ext he);have HB2 := hid (HB2.o.ext he);clear he;have c00 := HB0.o.c0;have c01 := HB0.o.c1;have c10 := HB1.o.c0;have c11 := HB1.o.c1;have c20 := HB2.o.c0;have c21 := HB2.o.c1
 go_wp2
 refine yx ?_;refine yc0 (.bool true) (fun w' _ => a5M w') ?_
 refine ya ?_;refine yl2 c00 c01 ?_;refine ya1 ?_;refine yl2 c10 c11 ?_;refine yl2 c20 c21 ?_;refine yc4 (.bool ps) (fun w' hR => HPS9.o w' (HX.o.trans hR) (HC.o.ext hR)) ?_
 refine yl2 c00 c01 ?_;refine ya1 ?_;refine yl2 c10 c11 ?_;refine yl2 c20 c21 ?_;refine yc4 (.bool ps) (fun w' hR => HRP9.o _ w' (HX.o.trans hR) (HS.o.ext hR)) ?_
 refine a0m rfl rfl (a03 rfl) Ext.refl rfl ?_; apply Exists.intro; refine ⟨?_, ?_⟩
 · intro a w' hR h1 h2
   have e1 : _ = _ := h1;have e2 : _ = _ := h2;have hq9 : (ps != ps) = false := by simp
   go_simp;rfl
 refine ya ?_;refine yl2 c00 c01 ?_;refine ya1 ?_;refine yl2 c10 c11 ?_;refine yl2 c20 c21 ?_;refine yc4 (.bool pd) (fun w' hR => HDU9.o w' (HX.o.trans hR) (HC.o.ext hR)) ?_
 refine yl2 c00 c01 ?_;refine ya1 ?_;refine yl2 c10 c11 ?_;refine yl2 c20 c21 ?_;refine yc4 (.bool pd) (fun w' hR => HRD9.o _ w' (HX.o.trans hR) (HS.o.ext hR)) ?_
 refine a0m rfl rfl (a03 rfl) Ext.refl rfl ?_; apply Exists.intro; refine ⟨?_, ?_⟩
 · intro a w' hR h1 h2
   have e1 : _ = _ := h1;have e2 : _ = _ := h2;have hq9 : (pd != pd) = false := by simp
   go_simp;rfl
 refine ya ?_;refine a02 ?_;intro w4 he hS4
 iterate 28 (rintro _ rfl)
 dsimp only [a0w];go_simp;have he : Ext w3 w4 := he;clear hS4;clear c00 c01 c10 c11 c20 c21;have HC := hid (HC.o.ext he);have HS := hid (HS.o.ext he);have HF := hid (HF.o.ext he);have HX := hid (HX.o.trans he);have HB0 := hid (HB0.o.ext he);have HB1 := hid (HB1.o.ext he);have HB2 := hid (HB2.o.ext he);clear he;have c00 := HB0.o.c0;have c01 := HB0.o.c1;have c10 := HB1.o.c0;have c11 := HB1.o.c1;have c20 := HB2.o.c0;have c21 := HB2.o.c1
 go_wp2_with fail
 refine (HCK.o w4 HX.o).mono ?_;rintro e w5 ⟨rfl, he⟩;clear c00 c01 c10 c11 c20 c21;have HS := hid (HS.o.ext he);have HF := hid (HF.o.ext he);have HX := hid (HX.o.trans he);have HB0 := hid (HB0.o.ext he);have HB1 := hid (HB1.o.ext he);have HB2 := hid (HB2.o.ext he);clear he
 cases ok with
 | false =>
  have hm : MY = 170 := HMY.o;subst hm;have hl0 : FL2.length = 0 := by rw [HFL.o]; simp
  have hl1 : (FL2.length : Int) = 0 := by omega
  clear HMY HFL
  go_wp2
  go_ret
  exact ⟨rfl, HX.o⟩
 | true =>
 have c00 := HB0.o.c0;have c01 := HB0.o.c1;have c10 := HB1.o.c0;have c11 := HB1.o.c1;have c20 := HB2.o.c0;have c21 := HB2.o.c1
 go_wp2_with fail
 refine (HPC.o (by first | rfl | trivial) w5 HX.o).mono ?_
 rintro e w6 ⟨rfl, he⟩;clear c00 c01 c10 c11 c20 c21;have HS := hid (HS.o.ext he);have HF := hid (HF.o.ext he);have HX := hid (HX.o.trans he);have HB0 := hid (HB0.o.ext he);have HB1 := hid (HB1.o.ext he);have HB2 := hid (HB2.o.ext he);clear he
 cases sq with
 | false =>
  have hm : MY = 1 := HMY.o;subst hm;have hl0 : FL2.length = 0 := by rw [HFL.o]; simp
  have hl1 : (FL2.length : Int) = 0 := by omega
  clear HMY HFL
  go_wp2
  go_ret
  exact ⟨rfl, HX.o⟩
 | true =>
 have hm : MY = 0 := HMY.o;subst hm;have hfl : FL2 = Mom.a1v CL := by have := HFL.o; rwa [if_pos rfl] at this
 have HFL2 := hid hfl;clear hfl HFL HMY;have c00 := HB0.o.c0;have c01 := HB0.o.c1;have c10 := HB1.o.c0;have c11 := HB1.o.c1;have c20 := HB2.o.c0;have c21 := HB2.o.c1
 go_wp2_with fail
 refine (HAN.o w6 HX.o).mono ?_;rintro e w7 ⟨un, rfl, hn, he⟩;obtain ⟨AN, cN, rfl⟩ := hn.form;clear hn;clear c00 c01 c10 c11 c20 c21;have HS := hid (HS.o.ext he);have HF := hid (HF.o.ext he);have HX := hid (HX.o.trans he);have HB0 := hid (HB0.o.ext he);have HB1 := hid (HB1.o.ext he);have HB2 := hid (HB2.o.ext he);clear he;have c00 := HB0.o.c0;have c01 := HB0.o.c1;have c10 := HB1.o.c0;have c11 := HB1.o.c1;have c20 := HB2.o.c0;have c21 := HB2.o.c1;have HF := hid (show RP w7 (.slice AF FL2.length cF) (Mom.a1v CL) from by rw [← HFL2.o]; exact HF.o)
 have HRC10 := hid (HRC9.o (by first | rfl | trivial) (by first | rfl | trivial))
 go_wp2_with fail
 refine (HRC10.o _ w7 HX.o HS.o).mono ?_;rintro e w8 ⟨v9, rfl, ho9, he⟩;obtain ⟨A9, c9, rfl⟩ := ho9.re.form;have HO9 := hid ho9.re;clear ho9;clear c00 c01 c10 c11 c20 c21;have HF := hid (HF.o.ext he);have HX := hid (HX.o.trans he);have HB0 := hid (HB0.o.ext he);have HB1 := hid (HB1.o.ext he);have HB2 := hid (HB2.o.ext he);clear he
 go_wp2_with fail
 refine (HFR.o _ w8 HO9.o).mono ?_;rintro e w9 ⟨v8, rfl, ho8, he⟩;obtain ⟨A8, c8, rfl⟩ := ho8.rp.form;have HO8 := hid ho8.rp;clear ho8;have HF := hid (HF.o.ext he);have HX := hid (HX.o.trans he);have HB0 := hid (HB0.o.ext he);have HB1 := hid (HB1.o.ext he);have HB2 := hid (HB2.o.ext he);clear he
 go_wp2_with fail
 refine (HSM.o _ _ (Mom.a1v CL) w9 HF.o HO8.o).mono ?_;rintro e w10 ⟨rfl, he⟩;have HX := hid (HX.o.trans he);have HB0 := hid (HB0.o.ext he);have HB1 := hid (HB1.o.ext he);have HB2 := hid (HB2.o.ext he);clear he
 go_wp2
 go_ret
 exact ⟨rfl, HX.o⟩
theorem a9s (w : World) (v : Value) (x : GArg) (hv : v = gAg x.1.1 x.2.2 ∧ a00 x.1.2 w x.1.1 x.2.1) (u : Value) (L : List Cnt.S) (hu : RE w u L) (vq : Value) (q : Pl.P2) (hq : vq = plV q) (vm : Value) (m : Mom.M) (hm : vm = mV m) :
 Calls Tryz.prog 4 #[v, u, vq, vm] w fun e w' => e = .returned (.bool true) ∧ Ext w w' := by
 obtain ⟨rfl, h⟩ := hv;subst hq hm;exact a9r x.1.2 x.1.1 x.2 u L q m w h hu
end Go.Proofs.YtdkejfjcchlnpaaGreat
namespace Go.Proofs.YtdkejfjcchlnpaaGreat
open Go.RowKit Go.Ox Go.ChangeShapes Go.WideShapes Ct
theorem rows5 {cs : List Value} (h : a2I [.int .i64, .int .i64, .int .i64, .int .i64, .int .i64] cs) : ∃ x : Cnt.S, cs = encS.enc x := by
 obtain ⟨a, cs, rfl, _, h⟩ := a1O h;obtain ⟨b, cs, rfl, _, h⟩ := a1O h;obtain ⟨c, cs, rfl, _, h⟩ := a1O h;obtain ⟨d, cs, rfl, _, h⟩ := a1O h;obtain ⟨e, cs, rfl, _, h⟩ := a1O h;obtain rfl := a7I h;exact ⟨(((a, b), c, d), e), rfl⟩
section
variable {H : Type} {enc : TypeId × Value → H} {W : World} {base : Nat} {sp : Nat → Bool} {held : Bool} {v : Value} {d : DataW H} {p : List MemPlace} {r : Reach} {b0 : Nat}
theorem a8y : ∀ (rows : List (List Value)), (∀ x ∈ rows, a2I [.int .i64, .int .i64, .int .i64, .int .i64, .int .i64] x) → ∃ l : List Cnt.S, rows.length = l.length ∧ rows.flatten = eV l
 | [], _ => ⟨[], rfl, rfl⟩
 | r :: rows, h => by
  obtain ⟨l, h1, h2⟩ := a8y rows fun x hx => h x (List.mem_cons_of_mem _ hx)
  obtain ⟨x, rfl⟩ := rows5 (h r (List.mem_cons_self ..));exact ⟨x :: l, by simp [h1], by rw [List.flatten_cons, h2]; rfl⟩
theorem b3T (hv : Value.okWide Tryz.prog W r b0 25 v) (h : DataW.Trod enc Tryz.prog W base sp held 25 v d p) :
 ∃ l : List Cnt.S, RE W v l := by
 obtain ⟨rows, hr, hx⟩ := a8J (n := 8) (ks := [.int .i64, .int .i64, .int .i64, .int .i64, .int .i64]) Tryz.underlying25 (by kernel_rfl) (by kernel_rfl) (by decide) hv h
 obtain ⟨l, h1, h2⟩ := a8y rows hx;rw [h1, h2] at hr;exact ⟨l, hr⟩
end
end Go.Proofs.YtdkejfjcchlnpaaGreat
namespace Go.Proofs.YtdkejfjcchlnpaaGreat.Mo
open Go.RowKit Go.Ox Go.ChangeShapes Go.WideShapes
section
variable {H : Type} {enc : TypeId × Value → H} {W : World} {base : Nat} {sp : Nat → Bool} {held : Bool} {v : Value} {d : DataW H} {p : List MemPlace} {r : Reach} {b0 : Nat}
theorem momArg (hv : Value.okWide Tryz.prog W r b0 29 v) (h : DataW.Trod enc Tryz.prog W base sp held 29 v d p) :
 ∃ x : Mom.M, v = mV x := by
 obtain ⟨cs, rfl, hr⟩ := a5T (n := 8) (ks := [.int .i64, .int .i64]) (by kernel_rfl) Tryz.underlying29 hv h
 obtain ⟨n, cs, rfl, _, hr⟩ := a1O hr;obtain ⟨m, cs, rfl, _, hr⟩ := a1O hr;obtain rfl := a7I hr;exact ⟨(n, m), rfl⟩
end
end Go.Proofs.YtdkejfjcchlnpaaGreat.Mo
