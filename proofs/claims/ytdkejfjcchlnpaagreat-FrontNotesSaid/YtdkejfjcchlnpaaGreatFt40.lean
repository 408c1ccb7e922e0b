/-
  PlRef, packed: what the claim needs of them.
-/
import Derived.Test.YtdkejfjcchlnpaaGreatFt30
set_option maxHeartbeats 40000000
open Go.Lib (hid)
set_option linter.unusedSimpArgs false
set_option linter.unusedVariables false
set_option maxRecDepth 100000
namespace Go.Proofs.YtdkejfjcchlnpaaGreat
open Go.RowKit Go.Ox Go.Ox.Gr Mo
attribute [local irreducible] RE OE a00
theorem b7j (v : Value) (l : List Pl) (i j : Int) (w : World) (hv : RE w v l) (hl : l.length <= 1000000) :
 Calls Tryz.prog 87 #[v, .agg #[.int .i64 i, .int .i64 j]] w fun e w' => e = .returned (.int .i64 (a29 (i, j) l 0)) ∧ Ext w w' := by
 obtain ⟨A, c, rfl⟩ := hv.form;have HX0 := hid ((Ext.refl w).alloc (.cells #[.int .i64 i, .int .i64 j] 27));have HB0 := hid (Blk.new w 27 #[.int .i64 i, .int .i64 j]);have HV := hid (hv.ext HX0.o);have HL := hid hl;have HPA := hid (fun k hk h1 h2 => @a6k (i, j) l 0 k hk h1 h2)
 have HPN := hid (@a2V (i, j) l 0);generalize a29 (i, j) l 0 = R at *;clear hv hl
 go_enter Tryz.func87, Tryz.ntmps87
 go_upto_region 1 with fail
 generalize w.heap.size = p at *;generalize w.alloc (.cells #[.int .i64 i, .int .i64 j] 27) = w0 at *
 go_wp2
 go_loopw [5] (fun iv wr => ∃ k : Nat, k <= l.length ∧ iv = .int .i64 (k : Int) ∧ ((i, j) : Pl) ∉ l.take k ∧ Ext w0 wr) (fun iv _ => l.length - (intOf iv).toNat)
 case atStart => exact ⟨0, Nat.zero_le _, rfl, by simp, Ext.refl _⟩
 case round =>
 obtain ⟨k, hk, rfl, hno, hext⟩ := hrel;have HNO := hid hno;have HE := hid hext;have a2 := (HB0.o.ext hext).c0;have a3 := (HB0.o.ext hext).c1;have hkb : k <= 1000000 := by have := HL.o; omega
 clear hno
 by_cases hlt : k < l.length
 . have q1 : (k : Int) < (l.length : Int) := by omega
   have q0 : 0 <= (k : Int) := by omega
   have q1n : k < l.length := hlt;have HLT := hid hlt;obtain ⟨bA, oA, rfl, y0, y1⟩ := rp2 (HV.o.ext hext) hlt
   have HTK := hid (show ((i, j) : Pl) ≠ l[k] -> ((i, j) : Pl) ∉ l.take (k + 1) from fun hne hm => by
    rw [List.take_succ_eq_append_getElem hlt, List.mem_append] at hm
    rcases hm with hm | hm
    . exact HNO.o hm
    exact hne (List.mem_singleton.1 hm))
   have HHIT := hid (HPA.o k hlt HNO.o);generalize l[k] = x at *;obtain ⟨x1, x2⟩ := x;dsimp only at y0 y1;have heq := b5o;clear hext hk hlt
   by_cases hq : (x1, x2) = (i, j)
   . have hd := pB_t hq
     have HR := hid (show R = (k : Int) by have := HHIT.o hq; rw [Nat.zero_add] at this; exact this)
     clear hq
     go_wp2
     refine yx ?_;refine ya ?_;refine yl2 y0 y1 ?_;refine yl2 a2 a3 ?_;refine a0j rfl rfl (a03 rfl) Ext.refl rfl ?_; apply Exists.intro; refine ⟨?_, ?_⟩
     . intro a w' hR h1 h2
       have e1 : _ = _ := h1;have e2 : _ = _ := h2;have hq9 := heq x1 x2 i j w';rw [hd] at hq9;go_simp;rfl
     refine a01 ?_;intro w5 hx5 hS
     iterate 6 (rintro _ rfl)
     dsimp only [a0y];go_simp;have hx5 : Ext wr w5 := hx5;have HX5 := hid ((HX0.o.trans HE.o).trans hx5);clear hx5 hS y0 y1 a2 a3 heq hd
     go_wp2
     go_ret
     exact ⟨by rw [HR.o]; rfl, HX5.o⟩
   have hd := pB_f hq;have HN2 := hid (HTK.o fun e => hq e.symm)
   clear hq
   go_wp2
   refine yx ?_;refine ya ?_;refine yl2 y0 y1 ?_;refine yl2 a2 a3 ?_;refine a0j rfl rfl (a03 rfl) Ext.refl rfl ?_; apply Exists.intro; refine ⟨?_, ?_⟩
   . intro a w' hR h1 h2
     have e1 : _ = _ := h1;have e2 : _ = _ := h2;have hq9 := heq x1 x2 i j w';rw [hd] at hq9;go_simp;rfl
   refine a01 ?_;intro w5 hx5 hS
   iterate 6 (rintro _ rfl)
   dsimp only [a0y];go_simp;have hx5 : Ext wr w5 := hx5;have HX5 := hid (HE.o.trans hx5);clear hx5 hS y0 y1 a2 a3 heq hd
   go_wp2
   exact ⟨⟨k + 1, HLT.o, by go_num, HN2.o, HX5.o⟩, by have := HLT.o; simp [intOf]; omega⟩
 obtain rfl : k = l.length := by omega
 have q1 : ¬ (l.length : Int) < (l.length : Int) := by omega
 have HR := hid (HPN.o (by have := HNO.o; rw [List.take_length] at this; exact this))
 clear hext hk hlt
 go_wp2
 go_ret
 exact ⟨by rw [HR.o]; rfl, HX0.o.trans HE.o⟩
theorem b7k {q : Pl.P2} {us : List Po} {k : Nat} (h : k < us.length) (e : us[k].1 = q) : us.any (fun u => u.1 == q) = true := List.any_eq_true.2 ⟨us[k], List.getElem_mem h, by simpa using e⟩
theorem b5a (d : Nat) (v : Value) (g : G) (p q : Pl.P2) (w : World) (hv : a00 d w v g.1) (hok : gOk g = true) (hp : p ∈ gPl g) :
 Calls Tryz.prog 116 #[gAg v g.2, plV p, plV q] w fun e w' => e = .returned (.tuple #[wV ((Pl.a5U g p q).getD (false, 0)), .bool (Pl.a5U g p q).isSome]) ∧ Ext w w' := by
 have hpn : (gNd g p).isSome = true := (a4m hok).2 (by unfold gPl at hp; rwa [if_pos hok] at hp)
 have HND := hid (fun W (h : Ext w W) => a8a d v g q W (hv.ext h) hok)
 have HUS := hid (fun W (h : Ext w W) => b0S d v g p W (hv.ext h) (a88 (l := g.1) (out := g.2) hok) hpn)
 have HLO := hid (fun W (h : Ext w W) => b1P d v g.1 g.2 W (hv.ext h) (by have := a8I hok; omega))
 have HUL := hid (b6F g p)
 have HARC := hid (show Pl.a5U g p q = if (gUs g p).any (fun u => u.1 == q) = true then some (decide (p.2 < 0) && decide (0 <= q.2), 0)
  else if a05 g.1 < 0 then none
  else if p = Pl.inP g ∧ Pl.a6t g q = 10 then some (true, 0)
  else if p = Pl.a3R g ∧ (Pl.a6t g q = 10 ∨ Pl.a6t g q = 11) then some (false, 1)
  else if p = Pl.a3R g ∧ Pl.a6t g q = 9 then some (true, 0)
  else none from rfl)
 have HOP := hid (show Pl.a6t g q = ((gNd g q).getD default).op from rfl);obtain ⟨l, out⟩ := g;have HLP := hid (show ¬ a05 l < 0 -> _ from fun h0 => Pl.b6I (l := l) (out := out) (show a1Q (l, out) = true from by unfold a1Q; rw [hok]; simp; omega))
 have HLA := hid (show (l, out).1 = l from rfl);simp only at HARC HLO HND HUS hv;generalize Pl.a5U (l, out) p q = AF at *;generalize Pl.a6t (l, out) q = opq at *;generalize Pl.inP (l, out) = IP at *;generalize Pl.a3R (l, out) = LP at *;generalize gUs (l, out) p = US at *;generalize (gNd (l, out) q).getD default = nd at *;generalize (gNd (l, out) q).isSome = sq at *;generalize hla : a05 l = la at *;have HV0 := hid hv;obtain ⟨A, c, rfl⟩ := hv.form;obtain ⟨p1, p2⟩ := p;obtain ⟨q1, q2⟩ := q;obtain ⟨op, ins, kind, fa, a, body⟩ := nd;have hopq : opq = op := HOP.o;subst hopq;have h0 : BW4 ((((w.alloc (gCs (.slice A l.length c) out)).alloc (.cells #[.int .i64 p1, .int .i64 p2] 27)).alloc (.cells #[.int .i64 q1, .int .i64 q2] 27)).alloc (.cells #[.bool false, .int .i64 0] 107)) w.heap.size (.slice A l.length c) out p1 p2 q1 q2 ∧ Ext w ((((w.alloc (gCs (.slice A l.length c) out)).alloc (.cells #[.int .i64 p1, .int .i64 p2] 27)).alloc (.cells #[.int .i64 q1, .int .i64 q2] 27)).alloc (.cells #[.bool false, .int .i64 0] 107)) := BW4.new w (.slice A l.length c) out p1 p2 q1 q2;have HB0 := hid h0.1;have HX0 := hid h0.2;clear h0 hv hp hpn hok
 go_enter Tryz.func116, Tryz.ntmps116
 go_upto_region 1 with fail
 obtain ⟨n, hn⟩ : ∃ n, n = w.heap.size := ⟨_, rfl⟩;rw [<- hn] at HB0 ⊢;have HPS := hid (show w.heap.size <= n + 1 + 1 + 1 from by omega)
 clear hn;generalize (((w.alloc (gCs (.slice A l.length c) out)).alloc (.cells #[.int .i64 p1, .int .i64 p2] 27)).alloc (.cells #[.int .i64 q1, .int .i64 q2] 27)).alloc (.cells #[.bool false, .int .i64 0] 107) = w0 at *;obtain ⟨c0, c1, c2, c3, c4, c5⟩ := HB0.o.cells
 go_wp2_with fail
 refine (HND.o w0 HX0.o).mono ?_;rintro e w1 ⟨u9, b9, rfl, hu9, hb9, he1⟩;simp only [Nd.op, Nd.kind, Nd.fa, Nd.a, Nd.ins, Nd.body] at hu9 hb9 ⊢;obtain ⟨A9, c9, rfl⟩ := hu9.form;obtain ⟨A8, c8, rfl⟩ := hb9.form;have hx2 := he1.alloc (a0m opq kind fa a (.slice A9 ins.length c9) (.slice A8 body.length c8));have HX2 := hid (HX0.o.trans hx2);have HB2 := hid (HB0.o.ext hx2);have HNB := hid (Blk.new w1 101 #[.int .i64 opq, .slice A9 ins.length c9, .int .i64 kind, .int .i64 fa, .int .i64 a, .slice A8 body.length c8]);clear hu9 hb9 he1 hx2 c0 c1 c2 c3 c4 c5 HX0 HB0
 go_upto_region 2 with fail
 generalize w1.heap.size = q8 at *;generalize w1.alloc (a0m opq kind fa a (.slice A9 ins.length c9) (.slice A8 body.length c8)) = w2 at *;obtain ⟨c0, c1, c2, c3, c4, c5⟩ := HB2.o.cells
 go_wp2_with fail
 refine (HLO.o w2 HX2.o).mono ?_;rintro e w3 ⟨rfl, he3⟩;have HX3 := hid (HX2.o.trans he3);have HB3 := hid (HB2.o.ext he3);have HN3 := hid (HNB.o.ext he3);clear he3 c0 c1 c2 c3 c4 c5 HX2 HB2 HNB;obtain ⟨c0, c1, c2, c3, c4, c5⟩ := HB3.o.cells
 go_wp2_with fail
 refine (HUS.o w3 HX3.o).mono ?_;rintro e w4 ⟨uu, rfl, huu, he4⟩;obtain ⟨AU, cU, rfl⟩ := huu.form;have HU4 := hid huu;have HX4 := hid (HX3.o.trans he4);have HB4 := hid (HB3.o.ext he4);have HN4 := hid (HN3.o.ext he4);clear huu he4 c0 c1 c2 c3 c4 c5 HX3 HB3 HN3;obtain ⟨nr, hnr⟩ : ∃ k, k = n + 1 + 1 + 1 := ⟨_, rfl⟩;rw [<- hnr] at HPS ⊢;have HNR := hid hnr;clear hnr
 go_wp2
 go_loopw [12] (fun iv wr => ∃ k : Nat, k <= US.length ∧ iv = .int .i64 (k : Int) ∧ (∀ u ∈ US.take k, ¬ u.1 = (q1, q2)) ∧ Ext w4 wr) (fun iv _ => US.length - (intOf iv).toNat)
 case atStart => exact ⟨0, Nat.zero_le _, rfl, by simp, Ext.refl _⟩
 case round =>
 obtain ⟨k, hk, rfl, hno, hext⟩ := hrel;have HNO := hid hno;have HE := hid hext;have HBR := hid (HB4.o.ext hext);have HUR := hid (HU4.o.ext hext);have hkb : k <= 1000000 := by have := HUL.o; omega
 clear hno hext
 by_cases hlt : k < US.length
 . have r1 : (k : Int) < (US.length : Int) := by omega
   have r0 : 0 <= (k : Int) := by omega
   have HLT := hid hlt;obtain ⟨bU, oU, hAU, hcU⟩ := RE.at_ HUR.o hlt;have HTK := hid (List.take_succ_eq_append_getElem hlt);have HHT := hid (fun e => b7k (q := (q1, q2)) hlt e)
   generalize US[k] = z at *;obtain ⟨⟨z1, z2⟩, z3⟩ := z;have y0 : wr.cell? ⟨bU, oU + k * 3, none⟩ = some (.int .i64 z1) := hcU 0 _ rfl;have y1 : wr.cell? ⟨bU, oU + k * 3 + 1, none⟩ = some (.int .i64 z2) := hcU 1 _ rfl;subst hAU;have a2 : wr.cell? ⟨n + 1 + 1, 0, none⟩ = some (.int .i64 q1) := HBR.o.q.cell 0;have a3 : wr.cell? ⟨n + 1 + 1, 1, none⟩ = some (.int .i64 q2) := HBR.o.q.cell 1;clear hcU hlt hk
   by_cases hq : (z1, z2) = (q1, q2)
   . have hd := decide_eq_true hq
     have HR := hid (show AF = some (decide (p2 < 0) && decide (0 <= q2), 0) from by rw [HARC.o, if_pos (HHT.o hq)])
     have heq := a6Y z1 z2 q1 q2;rw [hd] at heq;clear hq
     go_wp2
     refine yx ?_;refine ya ?_;refine yl2 y0 y1 ?_;refine yl2 a2 a3 ?_;refine a0j rfl rfl (a03 rfl) Ext.refl rfl ?_; apply Exists.intro; refine ⟨?_, ?_⟩
     . intro a w' hR h1 h2
       have e1 : _ = _ := h1;have e2 : _ = _ := h2;have hq9 := heq w';go_simp;rfl
     refine a01 ?_;intro wz hx5 hS
     iterate 7 (rintro _ rfl)
     dsimp only [a0y];go_simp;have hx5 : Ext wr wz := hx5;have HXE := hid ((HX4.o.trans HE.o).trans hx5);have HBZ := hid (HBR.o.ext hx5);clear hx5 hS y0 y1 a2 a3 heq hd;have c3 : wz.cell? ⟨n + 1, 1, none⟩ = some (.int .i64 p2) := HBZ.o.p.cell 1;have c5 : wz.cell? ⟨n + 1 + 1, 1, none⟩ = some (.int .i64 q2) := HBZ.o.q.cell 1;have HRB := hid (show Blk wz nr 107 #[.bool false, .int .i64 0] from by rw [HNR.o]; exact HBZ.o.r)
     have s0 := HRB.o.cell 0;have s1 := HRB.o.cell 1;have f0 := HRB.o.frozen 0;have f1 := HRB.o.frozen 1;have t0 := fun u => (HRB.o.a0q 0 u).frozen 1
     have t1 := fun u => (HRB.o.a0q 0 u).cell 1
     by_cases hp2 : p2 < 0
     . have e1 := decide_eq_true hp2
       by_cases hq2 : 0 <= q2
       . have e2 := decide_eq_true hq2
         have HR2 := hid (show AF = some (true, 0) from by rw [HR.o, e1, e2]; rfl)
         clear e1 e2
         go_wp2
         obtain ⟨y0, y1, hy⟩ := a5G HRB.o HXE.o HPS.o (.bool true) (.int .i64 0);generalize ((wz.setCell ⟨nr, 0, none⟩ (.bool true)).setCell ⟨nr, 1, none⟩ (.int .i64 0)) = wr9 at *;exact bodyPost_ret (v := .tuple #[.agg #[.bool true, .int .i64 0], .bool true]) (by simp [results, Tryz.results116, go_sem, y0, y1]) rfl ⟨by rw [HR2.o]; rfl, hy⟩
       have e2 := decide_eq_false hq2;have HR2 := hid (show AF = some (false, 0) from by rw [HR.o, e1, e2]; rfl)
       clear e1 e2
       go_wp2
       obtain ⟨y0, y1, hy⟩ := a5G HRB.o HXE.o HPS.o (.bool false) (.int .i64 0);generalize ((wz.setCell ⟨nr, 0, none⟩ (.bool false)).setCell ⟨nr, 1, none⟩ (.int .i64 0)) = wr9 at *;exact bodyPost_ret (v := .tuple #[.agg #[.bool false, .int .i64 0], .bool true]) (by simp [results, Tryz.results116, go_sem, y0, y1]) rfl ⟨by rw [HR2.o]; rfl, hy⟩
     have e1 := decide_eq_false hp2;have HR2 := hid (show AF = some (false, 0) from by rw [HR.o, e1]; rfl)
     clear e1
     go_wp2
     obtain ⟨y0, y1, hy⟩ := a5G HRB.o HXE.o HPS.o (.bool false) (.int .i64 0);generalize ((wz.setCell ⟨nr, 0, none⟩ (.bool false)).setCell ⟨nr, 1, none⟩ (.int .i64 0)) = wr9 at *;exact bodyPost_ret (v := .tuple #[.agg #[.bool false, .int .i64 0], .bool true]) (by simp [results, Tryz.results116, go_sem, y0, y1]) rfl ⟨by rw [HR2.o]; rfl, hy⟩
   have hd := decide_eq_false hq
   have HN2 := hid (show ∀ u ∈ US.take (k + 1), ¬ u.1 = (q1, q2) from by
    rw [HTK.o];intro u hu
    rcases List.mem_append.1 hu with e | e
    . exact HNO.o u e
    rw [List.mem_singleton] at e; subst e; exact hq)
   have heq := a6Y z1 z2 q1 q2;rw [hd] at heq;clear hq
   go_wp2
   refine yx ?_;refine ya ?_;refine yl2 y0 y1 ?_;refine yl2 a2 a3 ?_;refine a0j rfl rfl (a03 rfl) Ext.refl rfl ?_; apply Exists.intro; refine ⟨?_, ?_⟩
   . intro a w' hR h1 h2
     have e1 : _ = _ := h1;have e2 : _ = _ := h2;have hq9 := heq w';go_simp;rfl
   refine a01 ?_;intro w5 hx5 hS
   iterate 7 (rintro _ rfl)
   dsimp only [a0y];go_simp;have hx5 : Ext wr w5 := hx5;have HX5 := hid (HE.o.trans hx5);clear hx5 hS y0 y1 a2 a3 heq hd
   go_wp2
   exact ⟨⟨k + 1, HLT.o, by go_num, HN2.o, HX5.o⟩, by have := HLT.o; simp [intOf]; omega⟩
 obtain rfl : k = US.length := by omega
 have r1 : ¬ (US.length : Int) < (US.length : Int) := by omega
 have HNA := hid (show ¬ US.any (fun u => u.1 == (q1, q2)) = true from by
  rw [List.any_eq_true];rintro ⟨u, hu, he⟩;have := HNO.o;rw [List.take_length] at this
  exact this u hu (by simpa using he))
 have HAR2 := hid (HARC.o.trans (if_neg HNA.o));clear hk hlt HARC;rename World => wz
 have HXE := hid (HX4.o.trans HE.o);have HRB := hid (show Blk wz nr 107 #[.bool false, .int .i64 0] from by rw [HNR.o]; exact HBR.o.r)
 by_cases hl0 : la < 0
 . have HR2 := hid (show AF = none from by rw [HAR2.o, if_pos hl0])
   have s0 := HRB.o.cell 0;have s1 := HRB.o.cell 1;have f0 := HRB.o.frozen 0;have f1 := HRB.o.frozen 1;have t0 := fun u => (HRB.o.a0q 0 u).frozen 1
   have t1 := fun u => (HRB.o.a0q 0 u).cell 1
   go_wp2
   obtain ⟨y0, y1, hy⟩ := a5G HRB.o HXE.o HPS.o (.bool false) (.int .i64 0);generalize ((wz.setCell ⟨nr, 0, none⟩ (.bool false)).setCell ⟨nr, 1, none⟩ (.int .i64 0)) = wr9 at *;exact bodyPost_ret (v := .tuple #[.agg #[.bool false, .int .i64 0], .bool false]) (by simp [results, Tryz.results116, go_sem, y0, y1]) rfl ⟨by rw [HR2.o]; rfl, hy⟩
 have HL0 := hid hl0;obtain ⟨ln, hlnl, i0, -, hlq, hN, h9, hb1, hb2, hi, hin, hhd, hlp, hi0, hin2⟩ := HLP.o (by omega)
 have hir : ∃ ir, l[ln].ins = i0 :: ir := by
  rw [hN] at hhd
  cases hins : l[ln].ins with
  | nil => rw [hins] at hi; simp at hi
  | cons x ir => rw [hins] at hhd; exact ⟨ir, by rw [<- hhd]; rfl⟩
 obtain ⟨ir, hir⟩ := hir;have HVZ := HV0.o.ext HXE.o;obtain ⟨bA, oA, u7, b7, hAA, e0, e1, e2, e3, e4, e5, hu7, hb7⟩ := HVZ.at_ hlnl;rw [hir] at hu7;obtain ⟨Au, cu, rfl⟩ := hu7.form;obtain ⟨Ab, cb, rfl⟩ := hb7.form;obtain ⟨bU7, oU7, hAu, hcU7⟩ := hu7.at_ (i := 0) (by simp)
 have i0c : wz.cell? ⟨bU7, oU7, none⟩ = some (.int .i64 i0) := by have := hcU7 0 _ rfl; simpa using this
 have hil : ((0 : Int) < ((i0 :: ir).length : Int)) := by simp
 have HAR3 := hid (show AF = if ((p1, p2) : Int × Int) = IP ∧ opq = 10 then some (true, 0) else if ((p1, p2) : Int × Int) = LP ∧ (opq = 10 ∨ opq = 11) then some (false, 1) else if ((p1, p2) : Int × Int) = LP ∧ opq = 9 then some (true, 0) else none from by rw [HAR2.o, if_neg hl0])
 have hq1 : (ln : Int) < (l.length : Int) := by omega
 have HLN := hid hlnl;generalize l[ln].body = body7 at *;obtain ⟨bn, hbn⟩ : ∃ bn, body7.length = bn + 1 := ⟨body7.length - 1, by omega⟩
 have u1 : ((body7.length : Int) - 1) = (bn : Int) := by omega
 have u2 : IntKind.i64.wrap (bn : Int) = (bn : Int) := IntWalk.i64_in _ (by omega)
 have hLP : LP = ((ln : Int), (bn : Int)) := by rw [hlp, show body7.length - 1 = bn from by omega]
 rw [hin, hLP] at HAR3;generalize (i0 :: ir).length = il at *;have hbl9 : (body7.length : Int) <= 100 := by omega
 have HIN := hid hin2;subst hlq hAA hAu;clear hl0 HAR2 HLP hN h9 hb1 hb2 hi hin hhd hlp hir hbn hLP e0 e2 e3 e4 hu7 hb7 hcU7 HVZ HND HUS HLO HUL HOP HV0 HU4 HUR HNO HL0;have g0 : wz.cell? ⟨n, 0, none⟩ = some (.slice (some ⟨bA, oA, none⟩) l.length c) := HBR.o.g.cell 0
 go_upto_region 12 with fail
 have HX11 := hid ((Ext.refl wz).alloc (.cells #[.int .i64 (ln : Int), .int .i64 (bn : Int)] 27));have HLL := hid (Blk.new wz 27 #[.int .i64 (ln : Int), .int .i64 (bn : Int)]);have E1 := HX11.o.cell e1;have E2 := HX11.o.cell i0c;have E3 := HX11.o.cell g0;obtain ⟨pl, hpl⟩ : ∃ p, p = wz.heap.size := ⟨_, rfl⟩;rw [<- hpl] at HLL ⊢;clear hpl e1 e5 i0c g0;generalize wz.alloc (.cells #[.int .i64 (ln : Int), .int .i64 (bn : Int)] 27) = w11 at *
 go_upto_region 13 with fail
 have HX12 := hid ((Ext.refl w11).alloc (.cells #[.int .i64 i0, .int .i64 (-1)] 27));have HII := hid (Blk.new w11 27 #[.int .i64 i0, .int .i64 (-1)]);obtain ⟨pi, hpi⟩ : ∃ p, p = w11.heap.size := ⟨_, rfl⟩;rw [<- hpi] at HII ⊢;clear hpi E1 E2 E3;generalize w11.alloc (.cells #[.int .i64 i0, .int .i64 (-1)] 27) = wq at *;have HXZ := hid (HX11.o.trans HX12.o);have HXW := hid (HXE.o.trans HXZ.o);have HRW := hid (HRB.o.ext HXZ.o);have HBW := hid (HBR.o.ext HXZ.o);have HNW := hid (HN4.o.ext (HE.o.trans HXZ.o));have HLW := hid (HLL.o.ext HX12.o);clear HXE HRB HBR HN4 HLL HX11 HX12 HXZ;have HXE := HXW;have HRB := HRW;clear HB4 HX4 HE HXW HRW;have a0 := HNW.o.c0;have c2 : wq.cell? ⟨n + 1, 0, none⟩ = some (.int .i64 p1) := HBW.o.p.cell 0;have c3 : wq.cell? ⟨n + 1, 1, none⟩ = some (.int .i64 p2) := HBW.o.p.cell 1;have d0 := HLW.o.c0;have d1 := HLW.o.c1;have b0 := HII.o.c0;have b1 := HII.o.c1;have heqI := a6Y p1 p2 i0 (-1);have heqL := a6Y p1 p2 (ln : Int) (bn : Int);clear hil hq1 u1 u2 hbl9;have s0 := HRB.o.cell 0;have s1 := HRB.o.cell 1;have f0 := HRB.o.frozen 0;have f1 := HRB.o.frozen 1;have t0 := fun u => (HRB.o.a0q 0 u).frozen 1
 have t1 := fun u => (HRB.o.a0q 0 u).cell 1
 by_cases hI : ((p1, p2) : Int × Int) = (i0, -1)
 . have hIL : ¬ ((p1, p2) : Int × Int) = ((ln : Int), (bn : Int)) := by rw [hI]; intro e; injection e with a b; omega
   rw [decide_eq_true hI] at heqI;rw [decide_eq_false hIL] at heqL
   by_cases o10 : opq = 10
   . have HR2 := hid (show AF = some (true, 0) from by rw [HAR3.o, if_pos ⟨hI, o10⟩])
     have t10 : ((opq : Int) == 10) = true := by simpa using o10
     clear o10 hI hIL
     go_wp2
     obtain ⟨y0, y1, hy⟩ := a5G HRB.o HXE.o HPS.o (.bool true) (.int .i64 0);generalize ((wq.setCell ⟨nr, 0, none⟩ (.bool true)).setCell ⟨nr, 1, none⟩ (.int .i64 0)) = wr9 at *;exact bodyPost_ret (v := .tuple #[.agg #[.bool true, .int .i64 0], .bool true]) (by simp [results, Tryz.results116, go_sem, y0, y1]) rfl ⟨by rw [HR2.o]; rfl, hy⟩
   have HR2 := hid (show AF = none from by rw [HAR3.o, if_neg (fun e => o10 e.2), if_neg (fun e => hIL e.1), if_neg (fun e => hIL e.1)])
   have t10 : ((opq : Int) == 10) = false := by simpa using o10
   clear o10 hI hIL
   go_wp2
   obtain ⟨y0, y1, hy⟩ := a5G HRB.o HXE.o HPS.o (.bool false) (.int .i64 0);generalize ((wq.setCell ⟨nr, 0, none⟩ (.bool false)).setCell ⟨nr, 1, none⟩ (.int .i64 0)) = wr9 at *;exact bodyPost_ret (v := .tuple #[.agg #[.bool false, .int .i64 0], .bool false]) (by simp [results, Tryz.results116, go_sem, y0, y1]) rfl ⟨by rw [HR2.o]; rfl, hy⟩
 rw [decide_eq_false hI] at heqI
 by_cases hL : ((p1, p2) : Int × Int) = ((ln : Int), (bn : Int))
 . rw [decide_eq_true hL] at heqL
   by_cases o10 : opq = 10
   . have HR2 := hid (show AF = some (false, 1) from by rw [HAR3.o, if_neg (fun e => hI e.1), if_pos ⟨hL, .inl o10⟩])
     have t10 : ((opq : Int) == 10) = true := by simpa using o10
     clear o10 hI hL
     go_wp2
     obtain ⟨y0, y1, hy⟩ := a5G HRB.o HXE.o HPS.o (.bool false) (.int .i64 1);generalize ((wq.setCell ⟨nr, 0, none⟩ (.bool false)).setCell ⟨nr, 1, none⟩ (.int .i64 1)) = wr9 at *;exact bodyPost_ret (v := .tuple #[.agg #[.bool false, .int .i64 1], .bool true]) (by simp [results, Tryz.results116, go_sem, y0, y1]) rfl ⟨by rw [HR2.o]; rfl, hy⟩
   have t10 : ((opq : Int) == 10) = false := by simpa using o10
   by_cases o11 : opq = 11
   . have HR2 := hid (show AF = some (false, 1) from by rw [HAR3.o, if_neg (fun e => hI e.1), if_pos ⟨hL, .inr o11⟩])
     have t11 : ((opq : Int) == 11) = true := by simpa using o11
     clear o10 o11 hI hL
     go_wp2
     obtain ⟨y0, y1, hy⟩ := a5G HRB.o HXE.o HPS.o (.bool false) (.int .i64 1);generalize ((wq.setCell ⟨nr, 0, none⟩ (.bool false)).setCell ⟨nr, 1, none⟩ (.int .i64 1)) = wr9 at *;exact bodyPost_ret (v := .tuple #[.agg #[.bool false, .int .i64 1], .bool true]) (by simp [results, Tryz.results116, go_sem, y0, y1]) rfl ⟨by rw [HR2.o]; rfl, hy⟩
   have t11 : ((opq : Int) == 11) = false := by simpa using o11
   have HAR4 := hid (show AF = if ((p1, p2) : Int × Int) = ((ln : Int), (bn : Int)) ∧ opq = 9 then some (true, 0) else none from by rw [HAR3.o, if_neg (fun e => hI e.1), if_neg (fun e => by rcases e.2 with e | e; exact o10 e; exact o11 e)])
   by_cases o9 : opq = 9
   . have HR2 := hid (show AF = some (true, 0) from by rw [HAR4.o, if_pos ⟨hL, o9⟩])
     have t9 : ((opq : Int) == 9) = true := by simpa using o9
     clear o10 o11 o9 hI hL
     go_wp2
     obtain ⟨y0, y1, hy⟩ := a5G HRB.o HXE.o HPS.o (.bool true) (.int .i64 0);generalize ((wq.setCell ⟨nr, 0, none⟩ (.bool true)).setCell ⟨nr, 1, none⟩ (.int .i64 0)) = wr9 at *;exact bodyPost_ret (v := .tuple #[.agg #[.bool true, .int .i64 0], .bool true]) (by simp [results, Tryz.results116, go_sem, y0, y1]) rfl ⟨by rw [HR2.o]; rfl, hy⟩
   have HR2 := hid (show AF = none from by rw [HAR4.o, if_neg (fun e => o9 e.2)])
   have t9 : ((opq : Int) == 9) = false := by simpa using o9
   clear o10 o11 o9 hI hL
   go_wp2
   obtain ⟨y0, y1, hy⟩ := a5G HRB.o HXE.o HPS.o (.bool false) (.int .i64 0);generalize ((wq.setCell ⟨nr, 0, none⟩ (.bool false)).setCell ⟨nr, 1, none⟩ (.int .i64 0)) = wr9 at *;exact bodyPost_ret (v := .tuple #[.agg #[.bool false, .int .i64 0], .bool false]) (by simp [results, Tryz.results116, go_sem, y0, y1]) rfl ⟨by rw [HR2.o]; rfl, hy⟩
 rw [decide_eq_false hL] at heqL;have HR2 := hid (show AF = none from by rw [HAR3.o, if_neg (fun e => hI e.1), if_neg (fun e => hL e.1), if_neg (fun e => hL e.1)])
 clear hI hL
 go_wp2
 obtain ⟨y0, y1, hy⟩ := a5G HRB.o HXE.o HPS.o (.bool false) (.int .i64 0);generalize ((wq.setCell ⟨nr, 0, none⟩ (.bool false)).setCell ⟨nr, 1, none⟩ (.int .i64 0)) = wr9 at *;exact bodyPost_ret (v := .tuple #[.agg #[.bool false, .int .i64 0], .bool false]) (by simp [results, Tryz.results116, go_sem, y0, y1]) rfl ⟨by rw [HR2.o]; rfl, hy⟩
end Go.Proofs.YtdkejfjcchlnpaaGreat
