/-
  Fr1, packed: what the claim needs of them.
-/
import Derived.Test.YtdkejfjcchlnpaaGreatFn38
set_option maxHeartbeats 40000000
open Go.Lib (hid)
set_option linter.unusedSimpArgs false
set_option linter.unusedVariables false
set_option maxRecDepth 100000
namespace Go.Proofs.YtdkejfjcchlnpaaGreat
open Go.RowKit Go.Ox Go.Ox.Gr Mo Ct
attribute [local irreducible] RE OE a00
theorem b2s (s : Cnt.S) (w : World) : Calls Tryz.prog 43 #[sV s] w fun e w' => e = .returned (.bool (Fr.no s)) ∧ Ext w w' := by
 obtain ⟨⟨⟨s1, s2⟩, s3, s4⟩, s5⟩ := s;have HX := hid ((Ext.refl w).alloc (.cells #[.int .i64 s1, .int .i64 s2, .int .i64 s3, .int .i64 s4, .int .i64 s5] 38))
 go_enter Tryz.func43, Tryz.ntmps43
 go_wp2
 go_ret
 exact ⟨rfl, HX.o⟩
theorem b4o (s : Cnt.S) (pq pm : Nat) (q1 q2 m1 m2 : Int) (w : World) (hq : Blk w pq 27 #[.int .i64 q1, .int .i64 q2]) (hm : Blk w pm 29 #[.int .i64 m1, .int .i64 m2]) :
 Calls Tryz.prog 48 #[sV s, .pointer (some ⟨pq, 0, none⟩), .pointer (some ⟨pm, 0, none⟩)] w fun e w' => e = .returned (.bool (Fr.own (q1, q2) (m1, m2) s)) ∧ Ext w w' := by
 obtain ⟨⟨⟨s1, s2⟩, s3, s4⟩, s5⟩ := s;have HX := hid ((Ext.refl w).alloc (.cells #[.int .i64 s1, .int .i64 s2, .int .i64 s3, .int .i64 s4, .int .i64 s5] 38));have HB := hid (Blk.new w 38 #[.int .i64 s1, .int .i64 s2, .int .i64 s3, .int .i64 s4, .int .i64 s5]);have HQ := hid (hq.ext HX.o);have HM := hid (hm.ext HX.o);have HO := hid (show Fr.own (q1, q2) (m1, m2) (((s1, s2), s3, s4), s5) = (decide ((s1, s2) = (q1, q2)) && decide ((s3, s4) = (m1, m2))) from rfl);generalize Fr.own (q1, q2) (m1, m2) (((s1, s2), s3, s4), s5) = R at *;clear hq hm
 go_enter Tryz.func48, Tryz.ntmps48
 go_upto_region 1 with fail
 generalize w.heap.size = p at *;generalize w.alloc (.cells #[.int .i64 s1, .int .i64 s2, .int .i64 s3, .int .i64 s4, .int .i64 s5] 38) = w0 at *;have c0 := HB.o.c0;have c1 := HB.o.c1;have c2 := HB.o.c2;have c3 := HB.o.c3;have d0 := HQ.o.c0;have d1 := HQ.o.c1;have d2 := HM.o.c0;have d3 := HM.o.c1;have heq := b3B s1 s2 q1 q2;have hem := Mo.eqM s3 s4 m1 m2
 by_cases h1 : (s1, s2) = (q1, q2)
 · rw [decide_eq_true h1] at heq
   by_cases h2 : (s3, s4) = (m1, m2)
   · have HR := hid (show R = true from by rw [HO.o, decide_eq_true h1, decide_eq_true h2]; rfl)
     rw [b0E h2] at hem;clear h1 h2
     go_wp2
     go_ret
     exact ⟨by rw [HR.o]; rfl, HX.o⟩
   have HR := hid (show R = false from by rw [HO.o, decide_eq_false h2]; simp)
   rw [b0F h2] at hem;clear h1 h2
   go_wp2
   go_ret
   exact ⟨by rw [HR.o]; rfl, HX.o⟩
 rw [decide_eq_false h1] at heq;have HR := hid (show R = false from by rw [HO.o, decide_eq_false h1]; rfl)
 clear h1
 go_wp2
 go_ret
 exact ⟨by rw [HR.o]; rfl, HX.o⟩
theorem a3Q (d : Nat) (v : Value) (g : G) (q : Pl.P2) (w : World) (hv : a00 d w v g.1) :
 Calls Tryz.prog 39 #[gAg v g.2, plV q] w fun e w' => e = .returned (.int .i64 (Fr.may g q)) ∧ Ext w w' := by
 have HCK := hid (fun W (h : Ext w W) => a0C d v g.1 g.2 W (hv.ext h))
 have HND := hid (fun W (h : Ext w W) => a6D d v g q W (hv.ext h))
 have HMY := hid (show Fr.may g q = if gOk g = true then (if (gNd g q).isSome = true then 0 else 1) else 170 from rfl)
 have HGE := hid (show gE g = if gOk g = true then 0 else 170 from rfl)
 obtain ⟨l, out⟩ := g;simp only at HCK hv;generalize Fr.may (l, out) q = MY at *;generalize gE (l, out) = E at *;generalize gOk (l, out) = ok at *;generalize (gNd (l, out) q).isSome = sq at *;generalize (gNd (l, out) q).getD default = nd at *;obtain ⟨op, ins, kind, fa, a, body⟩ := nd;obtain ⟨A, c, rfl⟩ := hv.form;obtain ⟨q1, q2⟩ := q;have HX := hid (show Ext w ((w.alloc (.cells #[.slice A l.length c, .int .i64 out] 24)).alloc (.cells #[.int .i64 q1, .int .i64 q2] 27)) from a0s [(#[.slice A l.length c, .int .i64 out], 24), (#[.int .i64 q1, .int .i64 q2], 27)] w);have HB0 := hid (show Blk ((w.alloc (.cells #[.slice A l.length c, .int .i64 out] 24)).alloc (.cells #[.int .i64 q1, .int .i64 q2] 27)) (w.heap.size) 24 #[.slice A l.length c, .int .i64 out] from a08 [(#[.slice A l.length c, .int .i64 out], 24), (#[.int .i64 q1, .int .i64 q2], 27)] w 0 _ _ rfl);have HB1 := hid (show Blk ((w.alloc (.cells #[.slice A l.length c, .int .i64 out] 24)).alloc (.cells #[.int .i64 q1, .int .i64 q2] 27)) (w.heap.size + 1) 27 #[.int .i64 q1, .int .i64 q2] from a08 [(#[.slice A l.length c, .int .i64 out], 24), (#[.int .i64 q1, .int .i64 q2], 27)] w 1 _ _ rfl);clear hv
 go_enter Tryz.func39, Tryz.ntmps39
 go_upto_region 1 with fail
 generalize w.heap.size = bn at *;generalize (w.alloc (.cells #[.slice A l.length c, .int .i64 out] 24)).alloc (.cells #[.int .i64 q1, .int .i64 q2] 27) = w0 at *;have c00 := HB0.o.c0;have c01 := HB0.o.c1;have c10 := HB1.o.c0;have c11 := HB1.o.c1
 go_wp2_with fail
 refine (HCK.o w0 HX.o).mono ?_;rintro e w1 ⟨rfl, he⟩;clear c00 c01 c10 c11;have HX := hid (HX.o.trans he);have HB0 := hid (HB0.o.ext he);have HB1 := hid (HB1.o.ext he);clear he
 cases ok with
 | false =>
  have hE : E = 170 := HGE.o;have HR := hid (show MY = 170 from HMY.o);subst hE
  go_wp2
  go_ret
  exact ⟨by rw [HR.o]; rfl, HX.o⟩
 | true =>
 have hE : E = 0 := HGE.o;subst hE;have c00 := HB0.o.c0;have c01 := HB0.o.c1;have c10 := HB1.o.c0;have c11 := HB1.o.c1
 go_wp2_with fail
 refine (HND.o w1 HX.o).mono ?_;rintro e w2 ⟨u9, b9, rfl, hu9, hb9, he⟩;simp only [Nd.op, Nd.kind, Nd.fa, Nd.a, Nd.ins, Nd.body] at hu9 hb9 ⊢;obtain ⟨A9, c9, rfl⟩ := hu9.form;obtain ⟨A8, c8, rfl⟩ := hb9.form;have heb := he.alloc (a0i op kind fa a (.slice A9 ins.length c9) (.slice A8 body.length c8));clear c00 c01 c10 c11;have HX := hid (HX.o.trans heb);clear he heb hu9 hb9 HB0 HB1
 cases sq with
 | false =>
  have HR := hid (show MY = 1 from HMY.o)
  go_wp2
  go_ret
  exact ⟨by rw [HR.o]; rfl, HX.o⟩
 | true =>
 have HR := hid (show MY = 0 from HMY.o)
 go_wp2
 go_ret
 exact ⟨by rw [HR.o]; rfl, HX.o⟩
theorem a5p (d : Nat) (v : Value) (g : G) (gc b : Nat) (L : List Cnt.S) (q : Pl.P2) (w : World) (hv : a00 d w v g.1) (hn : (gPl g).length ≤ 20) (hc : CM w gc b L) (hl : L.length ≤ 1000000) :
 Calls Tryz.prog 42 #[gAg v g.2, .pointer (some ⟨gc, 0, none⟩), plV q, .func (.func 43) #[] #[]] w fun e w' => ∃ u, e = .returned u ∧ OE 29 w.heap.size w' u (Fr.comes g L q (Fr.no)) ∧ Ext w w' := by
 have HWY := hid (fun p W (h : Ext w W) => b0L d v g p q W (hv.ext h) hn)
 have HST := hid (fun W (h : Ext w W) => a5o W gc b L (hc.ext h) hl)
 have HCM := hid (show Fr.comes g L q (Fr.no) = L.filterMap (Fr.cmB g q (Fr.no)) from rfl);have HCB := hid (fun s => (show Fr.cmB g q (Fr.no) s = if Fr.no s = true then none else (Pl.b1n g s.1.1 q).bind fun w => if (a1J w s.1.2).2 = 0 then some (a1J w s.1.2).1 else none from rfl))
 have HOU := hid (fun s W (h : Ext w W) => b2s s W)
 have HLL := hid hl;obtain ⟨l, out⟩ := g;simp only at hv;generalize Fr.comes (l, out) L q (Fr.no) = CL at *;generalize Fr.cmB (l, out) q (Fr.no) = CB at *;generalize Fr.no = BU at *;obtain ⟨A, c, rfl⟩ := hv.form;obtain ⟨q1, q2⟩ := q;have HX := hid (show Ext w ((w.alloc (.cells #[.slice A l.length c, .int .i64 out] 24)).alloc (.cells #[.int .i64 q1, .int .i64 q2] 27)) from a0s [(#[.slice A l.length c, .int .i64 out], 24), (#[.int .i64 q1, .int .i64 q2], 27)] w);have HB0 := hid (show Blk ((w.alloc (.cells #[.slice A l.length c, .int .i64 out] 24)).alloc (.cells #[.int .i64 q1, .int .i64 q2] 27)) (w.heap.size) 24 #[.slice A l.length c, .int .i64 out] from a08 [(#[.slice A l.length c, .int .i64 out], 24), (#[.int .i64 q1, .int .i64 q2], 27)] w 0 _ _ rfl);have HB1 := hid (show Blk ((w.alloc (.cells #[.slice A l.length c, .int .i64 out] 24)).alloc (.cells #[.int .i64 q1, .int .i64 q2] 27)) (w.heap.size + 1) 27 #[.int .i64 q1, .int .i64 q2] from a08 [(#[.slice A l.length c, .int .i64 out], 24), (#[.int .i64 q1, .int .i64 q2], 27)] w 1 _ _ rfl);clear hv hn hc hl
 go_enter Tryz.func42, Tryz.ntmps42
 go_upto_region 1 with fail
 generalize w.heap.size = bn at *;generalize (w.alloc (.cells #[.slice A l.length c, .int .i64 out] 24)).alloc (.cells #[.int .i64 q1, .int .i64 q2] 27) = w0 at *;have c00 := HB0.o.c0;have c01 := HB0.o.c1;have c10 := HB1.o.c0;have c11 := HB1.o.c1
 go_wp2_with fail
 refine (HST.o w0 HX.o).mono ?_;rintro e w1 ⟨us, rfl, hus, he⟩;obtain ⟨AS, cS, rfl⟩ := hus.re.form;have HS := hid hus.re;have HWS := hid (show w.heap.size ≤ w1.heap.size from (HX.o.trans he).size);clear hus;clear c00 c01 c10 c11;have HX := hid (HX.o.trans he);have HB0 := hid (HB0.o.ext he);have HB1 := hid (HB1.o.ext he);clear he
 go_wp2
 go_loopw [9, 19] (fun ov kv wr => ∃ k : Nat, k ≤ L.length ∧ kv = .int .i64 (k : Int) ∧ OE 29 w1.heap.size wr ov ((L.take k).filterMap CB) ∧ Ext w1 wr) (fun _ kv _ => L.length - (intOf kv).toNat)
 case atStart => exact ⟨0, Nat.zero_le _, rfl, by simpa using OE.a2F _ _ _, Ext.refl _⟩
 case round =>
 obtain ⟨k, hk, rfl, ho, hx⟩ := hrel;rename World => wr
 have HO := hid ho;have HE := hid hx;obtain ⟨AO, cO, hvo⟩ := ho.re.form;clear ho;have hk9 : k ≤ 1000000 := by have := HLL.o; omega
 by_cases hlt : k < L.length
 · have r1 : (k : Int) < (L.length : Int) := by omega
   have r0 : 0 ≤ (k : Int) := by omega
   have HLT := hid hlt;obtain ⟨bS, oS, hAS, hcS⟩ := RE.at_ (HS.o.ext hx) hlt;obtain ⟨s, hs⟩ : ∃ s, L[k] = s := ⟨_, rfl⟩;have HTK := hid (show (L.take (k + 1)).filterMap CB = (L.take k).filterMap CB ++ (CB s).toList from by rw [← hs]; exact Pl.fmk CB L hlt)
   have HFX := hid (HCB.o s);have HO9 := hid (fun W (h : Ext w1 W) => HOU.o s W (HX.o.trans h))
   have HW9 := hid (fun W (h : Ext w1 W) => HWY.o s.1.1 W (HX.o.trans h))
   replace hcS : ∀ j u, (encS.enc s)[j]? = some u → wr.cell? ⟨bS, oS + k * 5 + j, none⟩ = some u := by subst hs; exact hcS
   have hfl : ((L.take k).filterMap CB).length ≤ 1000000 := by have := List.length_filterMap_le CB (L.take k); rw [List.length_take] at this; omega
   generalize (L.take k).filterMap CB = FK at *;generalize BU s = bs at *;obtain ⟨⟨⟨s1, s2⟩, s3, s4⟩, s5⟩ := s;simp only at HFX HW9;generalize Pl.b1n (l, out) (s1, s2) (q1, q2) = O at *;have e0 : wr.cell? ⟨bS, oS + k * 5, none⟩ = some (.int .i64 s1) := hcS 0 _ rfl;have e1' : wr.cell? ⟨bS, oS + k * 5 + 1, none⟩ = some (.int .i64 s2) := hcS 1 _ rfl;have e2' : wr.cell? ⟨bS, oS + k * 5 + 2, none⟩ = some (.int .i64 s3) := hcS 2 _ rfl;have e3' : wr.cell? ⟨bS, oS + k * 5 + 3, none⟩ = some (.int .i64 s4) := hcS 3 _ rfl;have e4' : wr.cell? ⟨bS, oS + k * 5 + 4, none⟩ = some (.int .i64 s5) := hcS 4 _ rfl;subst hAS;subst hvo;have hx1 := (Ext.refl wr).alloc (.cells #[.int .i64 s1, .int .i64 s2, .int .i64 s3, .int .i64 s4, .int .i64 s5] 38);have HZ := hid (Blk.new wr 38 #[.int .i64 s1, .int .i64 s2, .int .i64 s3, .int .i64 s4, .int .i64 s5]);have HO := hid (HO.o.ext hx1);have HE := hid (HE.o.trans hx1);clear hcS hlt hk hs hx hx1
   go_upto_region 5 with fail
   clear e0 e1' e2' e3' e4';obtain ⟨bz, hbz⟩ : ∃ x, x = wr.heap.size := ⟨_, rfl⟩;rw [← hbz] at HZ ⊢;clear hbz;generalize wr.alloc (.cells #[.int .i64 s1, .int .i64 s2, .int .i64 s3, .int .i64 s4, .int .i64 s5] 38) = w2 at *;have g0 := (HB0.o.ext HE.o).c0;have g1 := (HB0.o.ext HE.o).c1;have g2 := (HB1.o.ext HE.o).c0;have g3 := (HB1.o.ext HE.o).c1;have z0 := HZ.o.c0;have z1 := HZ.o.c1;obtain ⟨y1, y2, hy⟩ : ∃ y1 y2, O.getD (false, 0) = (y1, y2) := ⟨_, _, rfl⟩;obtain ⟨iso, hiso⟩ : ∃ x, O.isSome = x := ⟨_, rfl⟩;have HC9 := hid (HW9.o w2 HE.o);rw [hy, hiso] at HC9;have HYY := hid hy;have HIS := hid hiso;clear hy hiso HW9
   go_wp2_with fail
   refine HC9.o.mono ?_;rintro e w3 ⟨rfl, he⟩;have heb := he.alloc (.cells #[.bool y1, .int .i64 y2] 107);have HY := hid (Blk.new w3 107 #[.bool y1, .int .i64 y2]);have HZ := hid (HZ.o.ext heb);have HO := hid (HO.o.ext heb);have HE := hid (HE.o.trans heb);clear he heb g0 g1 g2 g3 z0 z1 HC9
   go_upto_region 6 with fail
   obtain ⟨by_, hby⟩ : ∃ x, x = w3.heap.size := ⟨_, rfl⟩;rw [← hby] at HY ⊢;clear hby;generalize w3.alloc (.cells #[.bool y1, .int .i64 y2] 107) = w4 at *
   cases iso with
   | false =>
    have h0 : O = none := by
     cases hO : O with
     | none => rfl
     | some x => have := HIS.o; rw [hO] at this; cases this
    have HR := hid (show (L.take (k + 1)).filterMap CB = FK from by rw [HTK.o, HFX.o, h0]; simp)
    clear h0
    go_wp2
    exact ⟨⟨k + 1, HLT.o, by go_num, by rw [HR.o]; exact HO.o, HE.o⟩, by have := HLT.o; simp [intOf]; omega⟩
   | true =>
   have h0 : O = some (y1, y2) := by
    cases hO : O with
    | none => have := HIS.o; rw [hO] at this; cases this
    | some x => have := HYY.o; rw [hO] at this; simp only [Option.getD_some] at this; rw [this]
   have z0 := HZ.o.c0;have z1 := HZ.o.c1;have z2 := HZ.o.c2;have z3 := HZ.o.c3;have z4 := HZ.o.c4;have HN9 := hid (HO9.o w4 HE.o);clear HO9
   go_wp2_with fail
   refine HN9.o.mono ?_;rintro e w5 ⟨rfl, he⟩;have HZ := hid (HZ.o.ext he);have HY := hid (HY.o.ext he);have HO := hid (HO.o.ext he);have HE := hid (HE.o.trans he);clear he z0 z1 z2 z3 z4 HN9
   cases bs with
   | true =>
    have HR := hid (show (L.take (k + 1)).filterMap CB = FK from by rw [HTK.o, HFX.o]; simp)
    clear h0
    go_wp2
    exact ⟨⟨k + 1, HLT.o, by go_num, by rw [HR.o]; exact HO.o, HE.o⟩, by have := HLT.o; simp [intOf]; omega⟩
   | false =>
   have HF2 := hid (show CB (((s1, s2), s3, s4), s5) = if (a1J (y1, y2) (s3, s4)).2 = 0 then some (a1J (y1, y2) (s3, s4)).1 else none from by rw [HFX.o, if_neg (by simp), h0]; rfl)
   have HWK := hid (fun W => Mo.a8d (y1, y2) (s3, s4) W)
   obtain ⟨⟨m1', m2'⟩, me, hme⟩ : ∃ m e, a1J (y1, y2) (s3, s4) = (m, e) := ⟨_, _, rfl⟩;rw [hme] at HF2 HWK;clear hme h0;simp only at HF2;have y0 := HY.o.c0;have y1' : w5.cell? ⟨by_, 1, none⟩ = some (.int .i64 y2) := HY.o.cell 1;have z2 := HZ.o.c2;have z3 := HZ.o.c3
   go_wp2_with fail
   refine (HWK.o w5).mono ?_;rintro e w6 ⟨rfl, he⟩;have heb := he.alloc (.cells #[.int .i64 m1', .int .i64 m2'] 29);have HM := hid (Blk.new w6 29 #[.int .i64 m1', .int .i64 m2']);have HO := hid (HO.o.ext heb);have HE := hid (HE.o.trans heb);clear he heb y0 y1' z2 z3 HZ HY
   go_upto_region 8 with fail
   obtain ⟨bm, hbm⟩ : ∃ x, x = w6.heap.size := ⟨_, rfl⟩;rw [← hbm] at HM ⊢;clear hbm;generalize w6.alloc (.cells #[.int .i64 m1', .int .i64 m2'] 29) = w7 at *
   by_cases hme : me = 0
   · have t1 : (me == 0) = true := by simpa using hme
     have HR := hid (show (L.take (k + 1)).filterMap CB = FK ++ [(m1', m2')] from by rw [HTK.o, HF2.o, if_pos hme]; rfl)
     have u0 := HM.o.c0;have u1 := HM.o.c1;have HL1 := hid (RE.lit w7 #[.int .i64 m1', .int .i64 m2'] 29 1 [((m1', m2') : Int × Int)] rfl (by omega) rfl)
     have HXA := hid ((Ext.refl w7).alloc (.cells #[.int .i64 m1', .int .i64 m2'] 29));have HOL := hid (HO.o.ext HXA.o);have HXB := hid (HE.o.trans HXA.o);clear hme
     go_wp2_with (at_builtin; refine a0y rfl Mo.b1u _ _ _ rfl w1.heap.size _ _ FK [((m1', m2') : Int × Int)] rfl HOL.o rfl HL1.o (by simp; omega) (by unfold maxLen; simp; omega) HXB.o.size ?_; intro v8 w8 ho8 hg8 hat8)
     have HX7 := HXB.o.grown hat8 fun g hg => (HOL.o.own.lt g hg).1
     exact ⟨⟨k + 1, HLT.o, by go_num, by rw [HR.o]; exact ho8, HX7⟩, by have := HLT.o; simp [intOf]; omega⟩
   have t1 : (me == 0) = false := by simpa using hme
   have HR := hid (show (L.take (k + 1)).filterMap CB = FK from by rw [HTK.o, HF2.o, if_neg hme]; simp)
   clear hme
   go_wp2
   exact ⟨⟨k + 1, HLT.o, by go_num, by rw [HR.o]; exact HO.o, HE.o⟩, by have := HLT.o; simp [intOf]; omega⟩
 obtain rfl : k = L.length := by omega
 have r1 : ¬ (L.length : Int) < (L.length : Int) := by omega
 rw [List.take_length, ← HCM.o] at HO hvo;subst hvo;have HR := hid (OE.low HO.o HWS.o);have HG := hid (HX.o.trans hx);clear hk hlt HO hx
 go_wp2
 go_ret
 exact ⟨_, rfl, HR.o, HG.o⟩
theorem a92 (d : Nat) (v : Value) (g : G) (gc b : Nat) (L : List Cnt.S) (q : Pl.P2) (q' : Pl.P2) (m' : Mom.M) (pq pm : Nat) (w : World) (hv : a00 d w v g.1) (hn : (gPl g).length ≤ 20) (hc : CM w gc b L) (hl : L.length ≤ 1000000) (hpq : Blk w pq 27 #[.int .i64 q'.1, .int .i64 q'.2]) (hpm : Blk w pm 29 #[.int .i64 m'.1, .int .i64 m'.2]) :
 Calls Tryz.prog 42 #[gAg v g.2, .pointer (some ⟨gc, 0, none⟩), plV q, .func (.func 48) #[] #[.pointer (some ⟨pq, 0, none⟩), .pointer (some ⟨pm, 0, none⟩)]] w fun e w' => ∃ u, e = .returned u ∧ OE 29 w.heap.size w' u (Fr.comes g L q (Fr.own q' m')) ∧ Ext w w' := by
 have HWY := hid (fun p W (h : Ext w W) => b0L d v g p q W (hv.ext h) hn)
 have HST := hid (fun W (h : Ext w W) => a5o W gc b L (hc.ext h) hl)
 have HCM := hid (show Fr.comes g L q (Fr.own q' m') = L.filterMap (Fr.cmB g q (Fr.own q' m')) from rfl);have HCB := hid (fun s => (show Fr.cmB g q (Fr.own q' m') s = if Fr.own q' m' s = true then none else (Pl.b1n g s.1.1 q).bind fun w => if (a1J w s.1.2).2 = 0 then some (a1J w s.1.2).1 else none from rfl))
 have HOU := hid (fun s W (h : Ext w W) => b4o s pq pm q'.1 q'.2 m'.1 m'.2 W (hpq.ext h) (hpm.ext h))
 have HLL := hid hl;obtain ⟨l, out⟩ := g;simp only at hv;generalize Fr.comes (l, out) L q (Fr.own q' m') = CL at *;generalize Fr.cmB (l, out) q (Fr.own q' m') = CB at *;generalize Fr.own q' m' = BU at *;obtain ⟨A, c, rfl⟩ := hv.form;obtain ⟨q1, q2⟩ := q;have HX := hid (show Ext w ((w.alloc (.cells #[.slice A l.length c, .int .i64 out] 24)).alloc (.cells #[.int .i64 q1, .int .i64 q2] 27)) from a0s [(#[.slice A l.length c, .int .i64 out], 24), (#[.int .i64 q1, .int .i64 q2], 27)] w);have HB0 := hid (show Blk ((w.alloc (.cells #[.slice A l.length c, .int .i64 out] 24)).alloc (.cells #[.int .i64 q1, .int .i64 q2] 27)) (w.heap.size) 24 #[.slice A l.length c, .int .i64 out] from a08 [(#[.slice A l.length c, .int .i64 out], 24), (#[.int .i64 q1, .int .i64 q2], 27)] w 0 _ _ rfl);have HB1 := hid (show Blk ((w.alloc (.cells #[.slice A l.length c, .int .i64 out] 24)).alloc (.cells #[.int .i64 q1, .int .i64 q2] 27)) (w.heap.size + 1) 27 #[.int .i64 q1, .int .i64 q2] from a08 [(#[.slice A l.length c, .int .i64 out], 24), (#[.int .i64 q1, .int .i64 q2], 27)] w 1 _ _ rfl);clear hv hn hc hl
 go_enter Tryz.func42, Tryz.ntmps42
 go_upto_region 1 with fail
 generalize w.heap.size = bn at *;generalize (w.alloc (.cells #[.slice A l.length c, .int .i64 out] 24)).alloc (.cells #[.int .i64 q1, .int .i64 q2] 27) = w0 at *;have c00 := HB0.o.c0;have c01 := HB0.o.c1;have c10 := HB1.o.c0;have c11 := HB1.o.c1
 go_wp2_with fail
 refine (HST.o w0 HX.o).mono ?_;rintro e w1 ⟨us, rfl, hus, he⟩;obtain ⟨AS, cS, rfl⟩ := hus.re.form;have HS := hid hus.re;have HWS := hid (show w.heap.size ≤ w1.heap.size from (HX.o.trans he).size);clear hus;clear c00 c01 c10 c11;have HX := hid (HX.o.trans he);have HB0 := hid (HB0.o.ext he);have HB1 := hid (HB1.o.ext he);clear he
 go_wp2
 go_loopw [9, 19] (fun ov kv wr => ∃ k : Nat, k ≤ L.length ∧ kv = .int .i64 (k : Int) ∧ OE 29 w1.heap.size wr ov ((L.take k).filterMap CB) ∧ Ext w1 wr) (fun _ kv _ => L.length - (intOf kv).toNat)
 case atStart => exact ⟨0, Nat.zero_le _, rfl, by simpa using OE.a2F _ _ _, Ext.refl _⟩
 case round =>
 obtain ⟨k, hk, rfl, ho, hx⟩ := hrel;rename World => wr
 have HO := hid ho;have HE := hid hx;obtain ⟨AO, cO, hvo⟩ := ho.re.form;clear ho;have hk9 : k ≤ 1000000 := by have := HLL.o; omega
 by_cases hlt : k < L.length
 · have r1 : (k : Int) < (L.length : Int) := by omega
   have r0 : 0 ≤ (k : Int) := by omega
   have HLT := hid hlt;obtain ⟨bS, oS, hAS, hcS⟩ := RE.at_ (HS.o.ext hx) hlt;obtain ⟨s, hs⟩ : ∃ s, L[k] = s := ⟨_, rfl⟩;have HTK := hid (show (L.take (k + 1)).filterMap CB = (L.take k).filterMap CB ++ (CB s).toList from by rw [← hs]; exact Pl.fmk CB L hlt)
   have HFX := hid (HCB.o s);have HO9 := hid (fun W (h : Ext w1 W) => HOU.o s W (HX.o.trans h))
   have HW9 := hid (fun W (h : Ext w1 W) => HWY.o s.1.1 W (HX.o.trans h))
   replace hcS : ∀ j u, (encS.enc s)[j]? = some u → wr.cell? ⟨bS, oS + k * 5 + j, none⟩ = some u := by subst hs; exact hcS
   have hfl : ((L.take k).filterMap CB).length ≤ 1000000 := by have := List.length_filterMap_le CB (L.take k); rw [List.length_take] at this; omega
   generalize (L.take k).filterMap CB = FK at *;generalize BU s = bs at *;obtain ⟨⟨⟨s1, s2⟩, s3, s4⟩, s5⟩ := s;simp only at HFX HW9;generalize Pl.b1n (l, out) (s1, s2) (q1, q2) = O at *;have e0 : wr.cell? ⟨bS, oS + k * 5, none⟩ = some (.int .i64 s1) := hcS 0 _ rfl;have e1' : wr.cell? ⟨bS, oS + k * 5 + 1, none⟩ = some (.int .i64 s2) := hcS 1 _ rfl;have e2' : wr.cell? ⟨bS, oS + k * 5 + 2, none⟩ = some (.int .i64 s3) := hcS 2 _ rfl;have e3' : wr.cell? ⟨bS, oS + k * 5 + 3, none⟩ = some (.int .i64 s4) := hcS 3 _ rfl;have e4' : wr.cell? ⟨bS, oS + k * 5 + 4, none⟩ = some (.int .i64 s5) := hcS 4 _ rfl;subst hAS;subst hvo;have hx1 := (Ext.refl wr).alloc (.cells #[.int .i64 s1, .int .i64 s2, .int .i64 s3, .int .i64 s4, .int .i64 s5] 38);have HZ := hid (Blk.new wr 38 #[.int .i64 s1, .int .i64 s2, .int .i64 s3, .int .i64 s4, .int .i64 s5]);have HO := hid (HO.o.ext hx1);have HE := hid (HE.o.trans hx1);clear hcS hlt hk hs hx hx1
   go_upto_region 5 with fail
   clear e0 e1' e2' e3' e4';obtain ⟨bz, hbz⟩ : ∃ x, x = wr.heap.size := ⟨_, rfl⟩;rw [← hbz] at HZ ⊢;clear hbz;generalize wr.alloc (.cells #[.int .i64 s1, .int .i64 s2, .int .i64 s3, .int .i64 s4, .int .i64 s5] 38) = w2 at *;have g0 := (HB0.o.ext HE.o).c0;have g1 := (HB0.o.ext HE.o).c1;have g2 := (HB1.o.ext HE.o).c0;have g3 := (HB1.o.ext HE.o).c1;have z0 := HZ.o.c0;have z1 := HZ.o.c1;obtain ⟨y1, y2, hy⟩ : ∃ y1 y2, O.getD (false, 0) = (y1, y2) := ⟨_, _, rfl⟩;obtain ⟨iso, hiso⟩ : ∃ x, O.isSome = x := ⟨_, rfl⟩;have HC9 := hid (HW9.o w2 HE.o);rw [hy, hiso] at HC9;have HYY := hid hy;have HIS := hid hiso;clear hy hiso HW9
   go_wp2_with fail
   refine HC9.o.mono ?_;rintro e w3 ⟨rfl, he⟩;have heb := he.alloc (.cells #[.bool y1, .int .i64 y2] 107);have HY := hid (Blk.new w3 107 #[.bool y1, .int .i64 y2]);have HZ := hid (HZ.o.ext heb);have HO := hid (HO.o.ext heb);have HE := hid (HE.o.trans heb);clear he heb g0 g1 g2 g3 z0 z1 HC9
   go_upto_region 6 with fail
   obtain ⟨by_, hby⟩ : ∃ x, x = w3.heap.size := ⟨_, rfl⟩;rw [← hby] at HY ⊢;clear hby;generalize w3.alloc (.cells #[.bool y1, .int .i64 y2] 107) = w4 at *
   cases iso with
   | false =>
    have h0 : O = none := by
     cases hO : O with
     | none => rfl
     | some x => have := HIS.o; rw [hO] at this; cases this
    have HR := hid (show (L.take (k + 1)).filterMap CB = FK from by rw [HTK.o, HFX.o, h0]; simp)
    clear h0
    go_wp2
    exact ⟨⟨k + 1, HLT.o, by go_num, by rw [HR.o]; exact HO.o, HE.o⟩, by have := HLT.o; simp [intOf]; omega⟩
   | true =>
   have h0 : O = some (y1, y2) := by
    cases hO : O with
    | none => have := HIS.o; rw [hO] at this; cases this
    | some x => have := HYY.o; rw [hO] at this; simp only [Option.getD_some] at this; rw [this]
   have z0 := HZ.o.c0;have z1 := HZ.o.c1;have z2 := HZ.o.c2;have z3 := HZ.o.c3;have z4 := HZ.o.c4;have HN9 := hid (HO9.o w4 HE.o);clear HO9
   go_wp2_with fail
   refine HN9.o.mono ?_;rintro e w5 ⟨rfl, he⟩;have HZ := hid (HZ.o.ext he);have HY := hid (HY.o.ext he);have HO := hid (HO.o.ext he);have HE := hid (HE.o.trans he);clear he z0 z1 z2 z3 z4 HN9
   cases bs with
   | true =>
    have HR := hid (show (L.take (k + 1)).filterMap CB = FK from by rw [HTK.o, HFX.o]; simp)
    clear h0
    go_wp2
    exact ⟨⟨k + 1, HLT.o, by go_num, by rw [HR.o]; exact HO.o, HE.o⟩, by have := HLT.o; simp [intOf]; omega⟩
   | false =>
   have HF2 := hid (show CB (((s1, s2), s3, s4), s5) = if (a1J (y1, y2) (s3, s4)).2 = 0 then some (a1J (y1, y2) (s3, s4)).1 else none from by rw [HFX.o, if_neg (by simp), h0]; rfl)
   have HWK := hid (fun W => Mo.a8d (y1, y2) (s3, s4) W)
   obtain ⟨⟨m1', m2'⟩, me, hme⟩ : ∃ m e, a1J (y1, y2) (s3, s4) = (m, e) := ⟨_, _, rfl⟩;rw [hme] at HF2 HWK;clear hme h0;simp only at HF2;have y0 := HY.o.c0;have y1' : w5.cell? ⟨by_, 1, none⟩ = some (.int .i64 y2) := HY.o.cell 1;have z2 := HZ.o.c2;have z3 := HZ.o.c3
   go_wp2_with fail
   refine (HWK.o w5).mono ?_;rintro e w6 ⟨rfl, he⟩;have heb := he.alloc (.cells #[.int .i64 m1', .int .i64 m2'] 29);have HM := hid (Blk.new w6 29 #[.int .i64 m1', .int .i64 m2']);have HO := hid (HO.o.ext heb);have HE := hid (HE.o.trans heb);clear he heb y0 y1' z2 z3 HZ HY
   go_upto_region 8 with fail
   obtain ⟨bm, hbm⟩ : ∃ x, x = w6.heap.size := ⟨_, rfl⟩;rw [← hbm] at HM ⊢;clear hbm;generalize w6.alloc (.cells #[.int .i64 m1', .int .i64 m2'] 29) = w7 at *
   by_cases hme : me = 0
   · have t1 : (me == 0) = true := by simpa using hme
     have HR := hid (show (L.take (k + 1)).filterMap CB = FK ++ [(m1', m2')] from by rw [HTK.o, HF2.o, if_pos hme]; rfl)
     have u0 := HM.o.c0;have u1 := HM.o.c1;have HL1 := hid (RE.lit w7 #[.int .i64 m1', .int .i64 m2'] 29 1 [((m1', m2') : Int × Int)] rfl (by omega) rfl)
     have HXA := hid ((Ext.refl w7).alloc (.cells #[.int .i64 m1', .int .i64 m2'] 29));have HOL := hid (HO.o.ext HXA.o);have HXB := hid (HE.o.trans HXA.o);clear hme
     go_wp2_with (at_builtin; refine a0y rfl Mo.b1u _ _ _ rfl w1.heap.size _ _ FK [((m1', m2') : Int × Int)] rfl HOL.o rfl HL1.o (by simp; omega) (by unfold maxLen; simp; omega) HXB.o.size ?_; intro v8 w8 ho8 hg8 hat8)
     have HX7 := HXB.o.grown hat8 fun g hg => (HOL.o.own.lt g hg).1
     exact ⟨⟨k + 1, HLT.o, by go_num, by rw [HR.o]; exact ho8, HX7⟩, by have := HLT.o; simp [intOf]; omega⟩
   have t1 : (me == 0) = false := by simpa using hme
   have HR := hid (show (L.take (k + 1)).filterMap CB = FK from by rw [HTK.o, HF2.o, if_neg hme]; simp)
   clear hme
   go_wp2
   exact ⟨⟨k + 1, HLT.o, by go_num, by rw [HR.o]; exact HO.o, HE.o⟩, by have := HLT.o; simp [intOf]; omega⟩
 obtain rfl : k = L.length := by omega
 have r1 : ¬ (L.length : Int) < (L.length : Int) := by omega
 rw [List.take_length, ← HCM.o] at HO hvo;subst hvo;have HR := hid (OE.low HO.o HWS.o);have HG := hid (HX.o.trans hx);clear hk hlt HO hx
 go_wp2
 go_ret
 exact ⟨_, rfl, HR.o, HG.o⟩
end Go.Proofs.YtdkejfjcchlnpaaGreat
