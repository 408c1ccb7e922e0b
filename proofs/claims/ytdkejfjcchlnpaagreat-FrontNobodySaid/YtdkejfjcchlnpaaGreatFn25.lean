/-
  GrUsers, packed: what the claim needs of them.
-/
import Derived.Test.YtdkejfjcchlnpaaGreatFn24
set_option maxHeartbeats 40000000
open Go.Lib (hid)
set_option linter.unusedSimpArgs false
set_option linter.unusedVariables false
set_option maxRecDepth 100000
namespace Go.Proofs.YtdkejfjcchlnpaaGreat
open Go.RowKit Go.Ox Go.Ox.Gr
attribute [local irreducible] RE OE a00
theorem a8H (i j k : Int) (p : Nat) (w : World) (hb : Blk w p 27 #[.int .i64 i, .int .i64 j]) :
 Calls Tryz.prog 182 #[.int .i64 k, .pointer (some ⟨p, 0, none⟩)] w fun e w' => e = .returned (plV (i, k)) ∧ Ext w w' := by
 have c0 := hb.c0;have hlt := hb.lt;clear hb
 go_enter Tryz.func182, Tryz.ntmps182
 go_wp2
 have hq := Blk.new w 27 #[.int .i64 i, .int .i64 k];have y0 := hq.cell 0;have y1 := hq.cell 1;exact bodyPost_ret (v := plV (i, k)) (by simp [results, Tryz.results182, go_sem, y0, y1]) rfl ⟨rfl, (Ext.refl w).alloc _⟩
theorem a8I (k : Int) (w : World) :
 Calls Tryz.prog 184 #[.int .i64 k] w fun e w' => e = .returned (plV (k, -1)) ∧ Ext w w' := by
 go_enter Tryz.func184, Tryz.ntmps184
 go_wp2
 have hq := Blk.new w 27 #[.int .i64 k, .int .i64 (-1)];have y0 := hq.cell 0;have y1 := hq.cell 1;exact bodyPost_ret (v := plV (k, -1)) (by simp [results, Tryz.results184, go_sem, y0, y1]) rfl ⟨rfl, (Ext.refl w).alloc _⟩
theorem a74 (d : Nat) (v : Value) (l : List Nd) (out i j : Int) (w : World) (hv : a00 d w v l)
 (hn : ∀ W, Ext w W → Calls Tryz.prog 68 #[gAg v out, plV (i, j)] W fun e W' => e = .returned (.tuple #[nd0V, .bool false]) ∧ Ext W W') :
 Calls Tryz.prog 167 #[gAg v out, plV (i, j)] w fun e w' => e = .returned (.slice none 0 0) ∧ Ext w w' := by
 obtain ⟨A, c, rfl⟩ := hv.form;have hx0 := ((Ext.refl w).alloc (gCs (.slice A l.length c) out)).alloc (a3M i j);have HX0 := hid hx0;have HG0 := hid ((Blk.new w 24 #[.slice A l.length c, .int .i64 out]).ext ((Ext.refl _).alloc (a3M i j)));have HP0 := hid (Blk.new (w.alloc (gCs (.slice A l.length c) out)) 27 #[.int .i64 i, .int .i64 j]);have HN := hid (hn _ hx0);clear hv hn hx0
 go_enter Tryz.func167, Tryz.ntmps167
 go_upto_region 1 with fail
 obtain ⟨p, hp⟩ : ∃ p, p = w.heap.size := ⟨_, rfl⟩;have hq : (w.alloc (gCs (.slice A l.length c) out)).heap.size = p + 1 := by rw [hp]; simp
 rw [hq] at HP0;rw [← hp] at HG0 ⊢;clear hp hq;generalize (w.alloc (gCs (.slice A l.length c) out)).alloc (a3M i j) = w0 at *;have a0 := HG0.o.c0;have a1 := HG0.o.c1;have a2 := HP0.o.c0;have a3 := HP0.o.c1
 go_wp2_with fail
 refine HN.o.mono ?_;rintro e w1 ⟨rfl, he1⟩;have HX1 := hid ((HX0.o.trans he1).alloc (a0i 0 0 0 0 (.slice none 0 0) (.slice none 0 0)));clear he1 a0 a1 a2 a3
 go_wp2
 go_ret
 exact ⟨rfl, HX1.o⟩
end Go.Proofs.YtdkejfjcchlnpaaGreat
namespace Go.Proofs.YtdkejfjcchlnpaaGreat
open Go.RowKit Go.Ox Go.Ox.Gr
attribute [local irreducible] RE OE a00
theorem b01 (d : Nat) (v : Value) (l : List Nd) (out : Int) (i j : Nat) (op kind fa a : Int) (ins : List Int) (body : List Nd) (mop mkind mfa ma : Int) (mins : List Int) (mbody : List Nd) (w : World) (hv : a00 d w v l) (hok : gOk (l, out) = true)
 (hni : l[i]? = some (.mk op ins kind fa a body)) (hmi : body[j]? = some (.mk mop mins mkind mfa ma mbody)) :
 Calls Tryz.prog 167 #[gAg v out, plV ((i : Int), (j : Int))] w fun e w' => ∃ u, e = .returned u ∧ OE 210 w.heap.size w' u (a0A (j : Int) (fun k => ((i : Int), (k : Int))) body) ∧ Ext w w' := by
 obtain ⟨A, c, rfl⟩ := hv.form;have hx0 := ((Ext.refl w).alloc (gCs (.slice A l.length c) out)).alloc (a3M (i : Int) (j : Int));have HX0 := hid hx0;have HG0 := hid ((Blk.new w 24 #[.slice A l.length c, .int .i64 out]).ext ((Ext.refl _).alloc (a3M (i : Int) (j : Int))));have HP0 := hid (Blk.new (w.alloc (gCs (.slice A l.length c) out)) 27 #[.int .i64 (i : Int), .int .i64 (j : Int)]);have HN := hid (a7R d (.slice A l.length c) l out i j op kind fa a ins body _ (hv.ext hx0) hok hni mop mkind mfa ma mins mbody hmi);have HV0 := hid hv;obtain ⟨hil, hix⟩ := List.getElem?_eq_some_iff.1 hni;have hnd := a4d hok (List.getElem_mem hil);rw [hix] at hnd;have HND := hid (show ins.length ≤ 2 ∧ body.length ≤ 32 ∧ ∀ m ∈ body, m.body = [] ∧ m.ins.length ≤ 2 from hnd);obtain ⟨bA, oA, u, bv, hA, e0, e1, e2, e3, e4, e5, hu, hbv⟩ := hv.at_ hil;rw [hix] at hbv;have HB0 := hid (show a00 (d - 1) w bv body from hbv);obtain ⟨Ab, cb, hbf⟩ : ∃ A c, bv = .slice A body.length c := HB0.o.form;subst hbf;subst hA;have eg : ∀ args w, (callFunc 182 args).run Tryz.prog w = .ok (.enter 182 args) w := enters_of Tryz.func182 (by kernel_rfl) rfl
 have HE5 := hid e5;have HIL := hid hil
 have HNM := hid (fun (q : Nat) (W : World) (hb : Blk W q 27 #[.int .i64 (i : Int), .int .i64 (j : Int)]) (h : a00 (d - 1) W (.slice Ab body.length cb) body) =>
  a6r (j : Int) (fun k => ((i : Int), (k : Int))) 182 #[.pointer (some ⟨q, 0, none⟩)] eg (d - 1) (.slice Ab body.length cb) body W h (by have := HND.o.2.1; omega) (fun n hn => by have := (HND.o.2.2 n hn).2; omega) (fun k W' he => a8H (i : Int) (j : Int) (k : Int) q W' (hb.ext he)))
 generalize a0A (j : Int) (fun k => ((i : Int), (k : Int))) body = nl at *
 clear hv hni hmi hx0 hix hnd e0 e1 e2 e3 e4 e5 hu hbv eg hok
 go_enter Tryz.func167, Tryz.ntmps167
 go_upto_region 1 with fail
 obtain ⟨p, hp⟩ : ∃ p, p = w.heap.size := ⟨_, rfl⟩;have hq : (w.alloc (gCs (.slice (some ⟨bA, oA, none⟩) l.length c) out)).heap.size = p + 1 := by rw [hp]; simp
 rw [hq] at HP0;rw [← hp] at HG0 ⊢;clear hp hq;generalize (w.alloc (gCs (.slice (some ⟨bA, oA, none⟩) l.length c) out)).alloc (a3M (i : Int) (j : Int)) = w0 at *;have a0 := HG0.o.c0;have a1 := HG0.o.c1;have a2 := HP0.o.c0;have a3 := HP0.o.c1
 go_wp2_with fail
 refine HN.o.mono ?_;rintro e w1 ⟨u', rfl, hu', he1⟩;obtain ⟨A9, c9, rfl⟩ := hu'.form;have hx2 := he1.alloc (a0i mop mkind mfa ma (.slice A9 mins.length c9) (.slice none 0 0));have HX2 := hid (HX0.o.trans hx2);have HG2 := hid (HG0.o.ext hx2);have HP2 := hid (HP0.o.ext hx2);clear he1 hu' hx2 a0 a1 a2 a3
 go_upto_region 5 with fail
 generalize w1.alloc (a0i mop mkind mfa ma (.slice A9 mins.length c9) (.slice none 0 0)) = w2 at *;have a0 := HG2.o.c0;have a2 := HP2.o.c0;have a3 := HP2.o.c1;have e5 := HX2.o.cell HE5.o;have hjm : ((j : Int) != -1) = true := by simp
 have q1 : (i : Int) < (l.length : Int) := by have := HIL.o; omega
 have q1n : i < l.length := HIL.o;have q0 : 0 ≤ (i : Int) := by omega
 go_wp2
 refine yx ?_;refine ya ?_;refine yl1 a0 ?_;refine ya ?_;refine yl1 a2 ?_;refine ya ?_;refine yl1 e5 ?_;refine ya ?_;refine yl1 a3 ?_;refine ya ?_;refine a06 (fun v w => OE 210 w2.heap.size w v nl) rfl rfl (a05 rfl) rfl (fun _ _ _ h k => OE.ext h k) ?_ ?_
 · intro a w' hR h1 h2 h3 K hK
   have e1 : _ = _ := h1;have e2 : _ = _ := h2;have e3 : _ = _ := h3;go_simp;refine (HNM.o (p + 1) w' (HP2.o.ext hR) (HB0.o.ext (HX2.o.trans hR))).mono ?_;rintro e w2 ⟨un, rfl, ho, he⟩;exact hK _ _ he (ho.low (Ext.size hR))
 (refine a8D rfl rfl rfl rfl rfl (a05 rfl) Ext.refl (by first | exact a0e | exact (fun _ _ _ h k => Rd.ext h k) | exact (fun _ _ _ h k => RB.ext h k) | exact (fun _ _ _ h k => OB.ext h k) | exact (fun _ _ _ h k => RB.extS h k) | exact (fun _ _ _ h k => Rd.ext h (a02.ext k)) | exact (fun _ _ _ h k => RP.ext h k) | exact (fun _ _ _ h k => OP.ext h k) | exact (fun _ _ _ h k => Rd.extV h k) | exact (fun _ _ _ h k => RB.extV h k) | exact (fun _ _ _ h k => E0.ext h k) | exact (fun _ _ _ h k => O0.ext h k) | exact (fun _ _ _ h k => RE.ext h k) | exact (fun _ _ _ h k => RE.extD h k) | exact (fun _ _ _ h _ => h) | exact (fun _ _ _ ⟨n, h1, h2⟩ k => ⟨n, h1, k.st _ _ h2⟩) | exact (fun _ _ _ h k => OE.ext h k) | exact (fun _ _ _ ⟨n, h1, h2, h3⟩ k => ⟨n, h1, h2, h3.ext k⟩)) ?_)
 refine a0f ?_;intro w5 hx5 hS
 iterate 10 (rintro _ rfl)
 rintro v35 h35;rintro v4 h4;dsimp only [a1K];go_simp;have hx5 : Ext w2 w5 := hx5;have HX5 := hid (HX2.o.trans hx5);have H4 := hid (show OE 210 w.heap.size w5 v4 nl from OE.low h4 HX2.o.size);clear hx5 hS h35 h4
 go_wp2
 go_ret
 exact ⟨_, rfl, H4.o, HX5.o⟩
end Go.Proofs.YtdkejfjcchlnpaaGreat
namespace Go.Ox.Gr
def ouN (name lp : Int) (body : List Nd) : List ((Int × Int) × Int) := body.zipIdx.filterMap fun x => if x.1.op = 11 ∧ x.1.a = name then some ((lp, (x.2 : Int)), 0) else none
theorem ouN_s (name lp : Int) (body : List Nd) {k : Nat} (h : k < body.length) : ouN name lp (body.take (k + 1)) = ouN name lp (body.take k) ++ (if body[k].op = 11 ∧ body[k].a = name then [((lp, (k : Int)), 0)] else []) := by
 unfold ouN;rw [List.take_succ_eq_append_getElem h, List.zipIdx_append, List.filterMap_append]
 congr 1
 have : (body.take k).length = k := by rw [List.length_take]; omega
 rw [this]
 by_cases q : body[k].op = 11 ∧ body[k].a = name
 · simp [q]
 rw [if_neg q];simp only [List.zipIdx_cons, List.zipIdx_nil, List.filterMap_cons, List.filterMap_nil];rw [if_neg q]
theorem b3J (name lp : Int) (body : List Nd) : (ouN name lp body).length ≤ body.length := by
 unfold ouN;refine Nat.le_trans (List.length_filterMap_le _ _) (by simp)
def a5N (l : List Nd) (i : Int) : List ((Int × Int) × Int) :=
 a0A i (fun k => ((k : Int), -1)) l ++ (if 0 ≤ a04 l then ouN i (a04 l) (l[(a04 l).toNat]?.getD default).body else [])
end Go.Ox.Gr
namespace Go.Proofs.YtdkejfjcchlnpaaGreat
open Go.RowKit Go.Ox Go.Ox.Gr
attribute [local irreducible] RE OE a00
theorem a8J (d : Nat) (v : Value) (l : List Nd) (out : Int) (i : Nat) (op kind fa a : Int) (ins : List Int) (body : List Nd) (w : World) (hv : a00 d w v l) (hok : gOk (l, out) = true)
 (hni : l[i]? = some (.mk op ins kind fa a body)) :
 Calls Tryz.prog 167 #[gAg v out, plV ((i : Int), -1)] w fun e w' => ∃ u, e = .returned u ∧ OE 210 w.heap.size w' u (a5N l i) ∧ Ext w w' := by
 have h32 := a9I hok;have h32 : l.length ≤ 32 := h32;have HND := hid (fun n (hn : n ∈ l) => a4d hok hn)
 have HLP := hid (show a5G (l, out) = max (a04 l) 0 ∧ a1A (l, out) = decide (0 ≤ a04 l) by
  unfold a5G a1A
  rw [if_pos hok, hok]; exact ⟨rfl, rfl⟩)
 have HLR := hid (a1c l);obtain ⟨A, c, rfl⟩ := hv.form;have hx0 := ((Ext.refl w).alloc (gCs (.slice A l.length c) out)).alloc (a3M (i : Int) (-1));have HX0 := hid hx0;have HG0 := hid ((Blk.new w 24 #[.slice A l.length c, .int .i64 out]).ext ((Ext.refl _).alloc (a3M (i : Int) (-1))));have HP0 := hid (Blk.new (w.alloc (gCs (.slice A l.length c) out)) 27 #[.int .i64 (i : Int), .int .i64 (-1)]);have HN := hid (a6s d (.slice A l.length c) l out i op kind fa a ins body _ (hv.ext hx0) hok hni);have HV0 := hid hv;have eg : ∀ args w, (callFunc 184 args).run Tryz.prog w = .ok (.enter 184 args) w := enters_of Tryz.func184 (by kernel_rfl) rfl
 have HNM := hid (fun (W : World) (h : a00 d W (.slice A l.length c) l) => a6r (i : Int) (fun k => ((k : Int), -1)) 184 #[] eg d (.slice A l.length c) l W h (by omega) (fun n hn => by have := (HND.o n hn).1; omega) (fun k W' he => a8I (k : Int) W'))
 have HLO := hid (fun (W : World) (h : a00 d W (.slice A l.length c) l) => a6n d (.slice A l.length c) l out W h)
 have HNL := hid (show (a0A (i : Int) (fun k => ((k : Int), -1)) l).length ≤ 10000 by have := a5c (i : Int) (fun k => ((k : Int), -1)) l l.length (fun n hn => by have := (HND.o n hn).1; omega) (by omega); rwa [List.take_length] at this)
 have HUS := hid (show a5N l i = a0A (i : Int) (fun k => ((k : Int), -1)) l ++ (if 0 ≤ a04 l then ouN i (a04 l) (l[(a04 l).toNat]?.getD default).body else []) from rfl)
 generalize a5N l i = us at *;generalize a0A (i : Int) (fun k => ((k : Int), -1)) l = nl at *
 clear hv hni hx0 eg hok h32
 go_enter Tryz.func167, Tryz.ntmps167
 go_upto_region 1 with fail
 obtain ⟨p, hp⟩ : ∃ p, p = w.heap.size := ⟨_, rfl⟩;have hq : (w.alloc (gCs (.slice A l.length c) out)).heap.size = p + 1 := by rw [hp]; simp
 rw [hq] at HP0;rw [← hp] at HG0 ⊢;clear hp hq;generalize (w.alloc (gCs (.slice A l.length c) out)).alloc (a3M (i : Int) (-1)) = w0 at *;have a0 := HG0.o.c0;have a1 := HG0.o.c1;have a2 := HP0.o.c0;have a3 := HP0.o.c1
 go_wp2_with fail
 refine HN.o.mono ?_;rintro e w1 ⟨u', b', rfl, hu', hb', he1⟩;obtain ⟨A9, c9, rfl⟩ := hu'.form;obtain ⟨A8, c8, rfl⟩ := hb'.form;have hx2 := he1.alloc (a0i op kind fa a (.slice A9 ins.length c9) (.slice A8 body.length c8));have HX2 := hid (HX0.o.trans hx2);have HG2 := hid (HG0.o.ext hx2);have HP2 := hid (HP0.o.ext hx2);clear he1 hu' hb' hx2 a0 a1 a2 a3
 go_upto_region 5 with fail
 generalize w1.alloc (a0i op kind fa a (.slice A9 ins.length c9) (.slice A8 body.length c8)) = w2 at *;have a0 := HG2.o.c0;have a2 := HP2.o.c0;have a3 := HP2.o.c1
 go_wp2_with fail
 refine (HNM.o w2 (HV0.o.ext HX2.o)).mono ?_;rintro e w3 ⟨un, rfl, ho3, he3⟩;have HX3 := hid (HX2.o.trans he3);have HG3 := hid (HG2.o.ext he3);have HP3 := hid (HP2.o.ext he3);have HO3 := hid ho3;obtain ⟨AO, cO, rfl⟩ := ho3.re.form;have HX23 := hid he3;clear ho3 he3 a0 a2 a3;have a0 := HG3.o.c0;have a1 := HG3.o.c1
 go_wp2_with fail
 refine (HLO.o w3 (HV0.o.ext HX3.o)).mono ?_;rintro e w4 ⟨rfl, he4⟩;have HX4 := hid (HX3.o.trans he4);have HG4 := hid (HG3.o.ext he4);have HP4 := hid (HP3.o.ext he4);have HO4 := hid (HO3.o.ext he4);have HX24 := hid (HX23.o.trans he4);clear he4 a0 a1;obtain ⟨hli, hlb⟩ := HLP.o
 by_cases hq : 0 ≤ a04 l
 · obtain ⟨n, hn⟩ : ∃ n : Nat, a04 l = (n : Int) := ⟨(a04 l).toNat, by omega⟩
   have hnl : n < l.length := by rcases HLR.o with q | q <;> omega
   have hli2 : a5G (l, out) = (n : Int) := by rw [hli, hn]; omega
   have hlb2 : a1A (l, out) = true := by rw [hlb]; simpa using hq
   have HUB := hid (show us = nl ++ ouN i (n : Int) l[n].body by
    have := HUS.o;rw [if_pos hq, hn, Int.toNat_natCast, List.getElem?_eq_getElem hnl] at this
    exact this)
   have HBL := hid (show l[n].body.length ≤ 32 from (HND.o _ (List.getElem_mem hnl)).2.1);rw [hli2, hlb2];obtain ⟨bA, oA, u, bv, rfl, e0, e1, e2, e3, e4, e5, hu, hbv⟩ := (HV0.o.ext HX2.o).at_ hnl;have e5 := HX24.o.cell e5;generalize l[n] = x at *;obtain ⟨xop, xins, xkind, xfa, xa, xbody⟩ := x;simp only [Nd.op, Nd.kind, Nd.fa, Nd.a, Nd.ins, Nd.body] at e0 e1 e2 e3 e4 e5 hu hbv;replace HUB := hid (show us = nl ++ ouN i (n : Int) xbody from HUB.o);replace HBL := hid (show xbody.length ≤ 32 from HBL.o);have HBV := hid hbv;obtain ⟨Ab, cb, rfl⟩ := hbv.form;have q1 : (n : Int) < (l.length : Int) := by omega
   have q0 : 0 ≤ (n : Int) := by omega
   have q1n : n < l.length := hnl;have a0 := HG4.o.c0;clear hu hbv e0 e1 e2 e3 e4 hli hlb hq hn hnl hli2 hlb2 HUS HLP HLR
   go_wp2
   clear a0 e5
   go_loopw [8, 54] (fun o iv wx => ∃ j : Nat, j ≤ xbody.length ∧ iv = .int .i64 (j : Int) ∧ OE 210 w2.heap.size wx o (nl ++ ouN i (n : Int) (xbody.take j)) ∧ Ext w2 wx) (fun _ iv _ => xbody.length - (intOf iv).toNat)
   case atStart => exact ⟨0, Nat.zero_le _, rfl, by rw [show ouN i (n : Int) (xbody.take 0) = [] from rfl, List.append_nil]; exact HO4.o, HX24.o⟩
   case round =>
   obtain ⟨j, hj, rfl, ho, hext⟩ := hrel;rename World => wx
   have HE := hid hext;have HO := hid ho;obtain ⟨AP, cP, hvo⟩ := ho.re.form;have hj100 : j ≤ 100 := by have := HBL.o; omega
   by_cases hlt : j < xbody.length
   · have r1 : (j : Int) < (xbody.length : Int) := by omega
     have r0 : 0 ≤ (j : Int) := by omega
     have r1n : j < xbody.length := hlt;have HJT := hid hlt;obtain ⟨bB, oB, ub, bb, rfl, e0, e1, e2, e3, e4, e5, hu, hbv⟩ := (HBV.o.ext hext).at_ hlt;have HSJ := hid (ouN_s i (n : Int) xbody hlt);have HPJ := hid (show (nl ++ ouN i (n : Int) (xbody.take j)).length ≤ 20100 by have h1 := HNL.o; have h2 := b3J i (n : Int) (xbody.take j); rw [List.length_append]; rw [List.length_take] at h2; have := HBL.o; omega)
     generalize xbody[j] = y at *;obtain ⟨yop, yins, ykind, yfa, ya, ybody⟩ := y;simp only [Nd.op, Nd.kind, Nd.fa, Nd.a, Nd.ins, Nd.body] at e0 e1 e2 e3 e4 e5 hu hbv;replace HSJ := hid (show ouN i (n : Int) (xbody.take (j + 1)) = ouN i (n : Int) (xbody.take j) ++ (if yop = 11 ∧ ya = (i : Int) then [(((n : Int), (j : Int)), (0 : Int))] else []) from HSJ.o)
     obtain ⟨Au, cu, rfl⟩ := hu.form;obtain ⟨Ab, cb2, rfl⟩ := hbv.form;have hxn := (Ext.refl wx).alloc (a0i yop ykind yfa ya (.slice Au yins.length cu) (.slice Ab ybody.length cb2));obtain ⟨y0, y1, y2, y3, y4, y5⟩ := (Bx6.new wx 101 (.int .i64 yop) (.slice Au yins.length cu) (.int .i64 ykind) (.int .i64 yfa) (.int .i64 ya) (.slice Ab ybody.length cb2)).at_;have HXN := hid (HE.o.trans hxn);have HON := hid (ho.ext hxn);have z2 : (wx.alloc (a0i yop ykind yfa ya (.slice Au yins.length cu) (.slice Ab ybody.length cb2))).cell? ⟨p + 1, 0, none⟩ = some (.int .i64 (i : Int)) := (HP2.o.ext HXN.o).cell 0;clear ho hext hlt hj hu hbv hxn y1 y2 y3 y5
     go_upto_region 13 with fail
     clear e0 e1 e2 e3 e4 e5;generalize wx.heap.size = q at *;generalize wx.alloc (a0i yop ykind yfa ya (.slice Au yins.length cu) (.slice Ab ybody.length cb2)) = wn at *
     by_cases hc : yop = 11 ∧ ya = (i : Int)
     · rw [if_pos hc] at HSJ
       obtain ⟨rfl, rfl⟩ := hc;have HAS := hid (show nl ++ ouN i (n : Int) (xbody.take (j + 1)) = (nl ++ ouN i (n : Int) (xbody.take j)) ++ [(((n : Int), (j : Int)), (0 : Int))] by rw [HSJ.o, List.append_assoc])
       generalize nl ++ ouN i (n : Int) (xbody.take j) = pj at *;subst hvo;have HL1 := hid (RE.lit wn #[.int .i64 (n : Int), .int .i64 (j : Int), .int .i64 0] 210 1 [((((n : Int), (j : Int)), (0 : Int)) : Po)] rfl (by omega) rfl)
       have HXA := hid ((Ext.refl wn).alloc (.cells #[.int .i64 (n : Int), .int .i64 (j : Int), .int .i64 0] 210));have HOL := hid (HON.o.ext HXA.o);have HXB := hid (HXN.o.trans HXA.o)
       go_wp2_with (at_builtin; refine a0y rfl b2O _ _ _ rfl w2.heap.size _ _ pj [((((n : Int), (j : Int)), (0 : Int)) : Po)] rfl HOL.o rfl HL1.o (by have := HPJ.o; simp; omega) (by have := HPJ.o; unfold maxLen; simp; omega) HXB.o.size ?_; intro v9 w9 ho9 hg9 hat9)
       have HX9 := hid (HXB.o.grown hat9 fun g hg => (HOL.o.own.lt g hg).1)
       have HO9 := hid ho9;clear ho9 hg9 hat9
       go_wp2
       exact ⟨⟨j + 1, HJT.o, by go_num, by rw [HAS.o]; exact HO9.o, HX9.o⟩, by have := HJT.o; simp [intOf]; omega⟩
     rw [if_neg hc, List.append_nil] at HSJ;have HAS := hid (show nl ++ ouN i (n : Int) (xbody.take (j + 1)) = nl ++ ouN i (n : Int) (xbody.take j) by rw [HSJ.o])
     by_cases h11 : yop = 11
     · subst h11
       have hab : (ya == (i : Int)) = false := by simpa using fun e => hc ⟨rfl, e⟩
       clear hc
       go_wp2_with fail
       exact ⟨⟨j + 1, HJT.o, by go_num, by rw [HAS.o]; exact HON.o, HXN.o⟩, by have := HJT.o; simp [intOf]; omega⟩
     have hob : (yop == 11) = false := by simpa using h11
     clear hc h11
     go_wp2_with fail
     exact ⟨⟨j + 1, HJT.o, by go_num, by rw [HAS.o]; exact HON.o, HXN.o⟩, by have := HJT.o; simp [intOf]; omega⟩
   obtain rfl : j = xbody.length := by omega
   have r1 : ¬ (xbody.length : Int) < (xbody.length : Int) := by omega
   rw [List.take_length] at HO;clear ho hext hj hlt hvo
   go_wp2
   go_ret
   exact ⟨_, rfl, by rw [HUB.o]; exact HO.o.low HX2.o.size, HX2.o.trans HE.o⟩
 have hlb2 : a1A (l, out) = false := by rw [hlb]; simpa using hq
 have HUB := hid (show us = nl by
  have := HUS.o;rw [if_neg hq, List.append_nil] at this
  exact this)
 rw [hlb2];clear hli hlb hq hlb2 HUS HLP HLR
 go_wp2
 go_ret
 exact ⟨_, rfl, by rw [HUB.o]; exact HO4.o.low HX2.o.size, HX4.o⟩
end Go.Proofs.YtdkejfjcchlnpaaGreat
