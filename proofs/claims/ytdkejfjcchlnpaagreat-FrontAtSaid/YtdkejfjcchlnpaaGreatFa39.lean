/-
  PlRef, PlRef2, PlRef3, PlRefW, packed: what the claim needs of them.
-/
import Derived.Test.YtdkejfjcchlnpaaGreatFa30
set_option maxHeartbeats 40000000
open Go.Lib (hid)
set_option linter.unusedSimpArgs false
set_option linter.unusedVariables false
set_option maxRecDepth 100000
namespace Go.Proofs.YtdkejfjcchlnpaaGreat
open Go.RowKit Go.Ox Go.Ox.Gr Mo
attribute [local irreducible] RE OE a00
theorem b7s (v : Value) (l : List Pl) (i j : Int) (w : World) (hv : RE w v l) (hl : l.length ≤ 1000000) :
 Calls Tryz.prog 87 #[v, .agg #[.int .i64 i, .int .i64 j]] w fun e w' => e = .returned (.int .i64 (a2a (i, j) l 0)) ∧ Ext w w' := by
 obtain ⟨A, c, rfl⟩ := hv.form;have HX0 := hid ((Ext.refl w).alloc (.cells #[.int .i64 i, .int .i64 j] 27));have HB0 := hid (Blk.new w 27 #[.int .i64 i, .int .i64 j]);have HV := hid (hv.ext HX0.o);have HL := hid hl;have HPA := hid (fun k hk h1 h2 => @a6l (i, j) l 0 k hk h1 h2)
 have HPN := hid (@a2W (i, j) l 0);generalize a2a (i, j) l 0 = R at *;clear hv hl
 go_enter Tryz.func87, Tryz.ntmps87
 go_upto_region 1 with fail
 generalize w.heap.size = p at *;generalize w.alloc (.cells #[.int .i64 i, .int .i64 j] 27) = w0 at *
 go_wp2
 go_loopw [5] (fun iv wr => ∃ k : Nat, k ≤ l.length ∧ iv = .int .i64 (k : Int) ∧ ((i, j) : Pl) ∉ l.take k ∧ Ext w0 wr) (fun iv _ => l.length - (intOf iv).toNat)
 case atStart => exact ⟨0, Nat.zero_le _, rfl, by simp, Ext.refl _⟩
 case round =>
 obtain ⟨k, hk, rfl, hno, hext⟩ := hrel;have HNO := hid hno;have HE := hid hext;have a2 := (HB0.o.ext hext).c0;have a3 := (HB0.o.ext hext).c1;have hkb : k ≤ 1000000 := by have := HL.o; omega
 clear hno
 by_cases hlt : k < l.length
 · have q1 : (k : Int) < (l.length : Int) := by omega
   have q0 : 0 ≤ (k : Int) := by omega
   have q1n : k < l.length := hlt;have HLT := hid hlt;obtain ⟨bA, oA, rfl, y0, y1⟩ := rp2 (HV.o.ext hext) hlt
   have HTK := hid (show ((i, j) : Pl) ≠ l[k] → ((i, j) : Pl) ∉ l.take (k + 1) from fun hne hm => by
    rw [List.take_succ_eq_append_getElem hlt, List.mem_append] at hm
    rcases hm with hm | hm
    · exact HNO.o hm
    exact hne (List.mem_singleton.1 hm))
   have HHIT := hid (HPA.o k hlt HNO.o);generalize l[k] = x at *;obtain ⟨x1, x2⟩ := x;dsimp only at y0 y1;have heq := b5z;clear hext hk hlt
   by_cases hq : (x1, x2) = (i, j)
   · have hd := pB_t hq
     have HR := hid (show R = (k : Int) by have := HHIT.o hq; rw [Nat.zero_add] at this; exact this)
     clear hq
     go_wp2
     refine yx ?_;refine ya ?_;refine yl2 y0 y1 ?_;refine yl2 a2 a3 ?_;refine a0m rfl rfl (a03 rfl) Ext.refl rfl ?_; apply Exists.intro; refine ⟨?_, ?_⟩
     · intro a w' hR h1 h2
       have e1 : _ = _ := h1;have e2 : _ = _ := h2;have hq9 := heq x1 x2 i j w';rw [hd] at hq9;go_simp;rfl
     refine a02 ?_;intro w5 hx5 hS
     iterate 6 (rintro _ rfl)
     dsimp only [a0w];go_simp;have hx5 : Ext wr w5 := hx5;have HX5 := hid ((HX0.o.trans HE.o).trans hx5);clear hx5 hS y0 y1 a2 a3 heq hd
     go_wp2
     go_ret
     exact ⟨by rw [HR.o]; rfl, HX5.o⟩
   have hd := pB_f hq;have HN2 := hid (HTK.o fun e => hq e.symm)
   clear hq
   go_wp2
   refine yx ?_;refine ya ?_;refine yl2 y0 y1 ?_;refine yl2 a2 a3 ?_;refine a0m rfl rfl (a03 rfl) Ext.refl rfl ?_; apply Exists.intro; refine ⟨?_, ?_⟩
   · intro a w' hR h1 h2
     have e1 : _ = _ := h1;have e2 : _ = _ := h2;have hq9 := heq x1 x2 i j w';rw [hd] at hq9;go_simp;rfl
   refine a02 ?_;intro w5 hx5 hS
   iterate 6 (rintro _ rfl)
   dsimp only [a0w];go_simp;have hx5 : Ext wr w5 := hx5;have HX5 := hid (HE.o.trans hx5);clear hx5 hS y0 y1 a2 a3 heq hd
   go_wp2
   exact ⟨⟨k + 1, HLT.o, by go_num, HN2.o, HX5.o⟩, by have := HLT.o; simp [intOf]; omega⟩
 obtain rfl : k = l.length := by omega
 have q1 : ¬ (l.length : Int) < (l.length : Int) := by omega
 have HR := hid (HPN.o (by have := HNO.o; rw [List.take_length] at this; exact this))
 clear hext hk hlt
 go_wp2
 go_ret
 exact ⟨by rw [HR.o]; rfl, HX0.o.trans HE.o⟩
theorem b7t {q : Pl.P2} {us : List Po} {k : Nat} (h : k < us.length) (e : us[k].1 = q) : us.any (fun u => u.1 == q) = true := List.any_eq_true.2 ⟨us[k], List.getElem_mem h, by simpa using e⟩
theorem b5l (d : Nat) (v : Value) (g : G) (p q : Pl.P2) (w : World) (hv : a00 d w v g.1) (hok : gOk g = true) (hp : p ∈ gPl g) :
 Calls Tryz.prog 116 #[gAg v g.2, plV p, plV q] w fun e w' => e = .returned (.tuple #[wV ((Pl.a5Y g p q).getD (false, 0)), .bool (Pl.a5Y g p q).isSome]) ∧ Ext w w' := by
 have hpn : (gNd g p).isSome = true := (a4n hok).2 (by unfold gPl at hp; rwa [if_pos hok] at hp)
 have HND := hid (fun W (h : Ext w W) => a8d d v g q W (hv.ext h) hok)
 have HUS := hid (fun W (h : Ext w W) => b17 d v g p W (hv.ext h) (a8b (l := g.1) (out := g.2) hok) hpn)
 have HLO := hid (fun W (h : Ext w W) => b22 d v g.1 g.2 W (hv.ext h) (by have := a8O hok; omega))
 have HUL := hid (b6T g p)
 have HARC := hid (show Pl.a5Y g p q = if (gUs g p).any (fun u => u.1 == q) = true then some (decide (p.2 < 0) && decide (0 ≤ q.2), 0)
  else if a06 g.1 < 0 then none
  else if p = Pl.inP g ∧ Pl.a6u g q = 10 then some (true, 0)
  else if p = Pl.a3S g ∧ (Pl.a6u g q = 10 ∨ Pl.a6u g q = 11) then some (false, 1)
  else if p = Pl.a3S g ∧ Pl.a6u g q = 9 then some (true, 0)
  else none from rfl)
 have HOP := hid (show Pl.a6u g q = ((gNd g q).getD default).op from rfl);obtain ⟨l, out⟩ := g;have HLP := hid (show ¬ a06 l < 0 → _ from fun h0 => Pl.b6W (l := l) (out := out) (show a1Q (l, out) = true from by unfold a1Q; rw [hok]; simp; omega))
 have HLA := hid (show (l, out).1 = l from rfl);simp only at HARC HLO HND HUS hv;generalize Pl.a5Y (l, out) p q = AF at *;generalize Pl.a6u (l, out) q = opq at *;generalize Pl.inP (l, out) = IP at *;generalize Pl.a3S (l, out) = LP at *;generalize gUs (l, out) p = US at *;generalize (gNd (l, out) q).getD default = nd at *;generalize (gNd (l, out) q).isSome = sq at *;generalize hla : a06 l = la at *;have HV0 := hid hv;obtain ⟨A, c, rfl⟩ := hv.form;obtain ⟨p1, p2⟩ := p;obtain ⟨q1, q2⟩ := q;obtain ⟨op, ins, kind, fa, a, body⟩ := nd;have hopq : opq = op := HOP.o;subst hopq;have h0 : BW4 ((((w.alloc (gCs (.slice A l.length c) out)).alloc (.cells #[.int .i64 p1, .int .i64 p2] 27)).alloc (.cells #[.int .i64 q1, .int .i64 q2] 27)).alloc (.cells #[.bool false, .int .i64 0] 107)) w.heap.size (.slice A l.length c) out p1 p2 q1 q2 ∧ Ext w ((((w.alloc (gCs (.slice A l.length c) out)).alloc (.cells #[.int .i64 p1, .int .i64 p2] 27)).alloc (.cells #[.int .i64 q1, .int .i64 q2] 27)).alloc (.cells #[.bool false, .int .i64 0] 107)) := BW4.new w (.slice A l.length c) out p1 p2 q1 q2;have HB0 := hid h0.1;have HX0 := hid h0.2;clear h0 hv hp hpn hok
 go_enter Tryz.func116, Tryz.ntmps116
 go_upto_region 1 with fail
 obtain ⟨n, hn⟩ : ∃ n, n = w.heap.size := ⟨_, rfl⟩;rw [← hn] at HB0 ⊢;have HPS := hid (show w.heap.size ≤ n + 1 + 1 + 1 from by omega)
 clear hn;generalize (((w.alloc (gCs (.slice A l.length c) out)).alloc (.cells #[.int .i64 p1, .int .i64 p2] 27)).alloc (.cells #[.int .i64 q1, .int .i64 q2] 27)).alloc (.cells #[.bool false, .int .i64 0] 107) = w0 at *;obtain ⟨c0, c1, c2, c3, c4, c5⟩ := HB0.o.cells
 go_wp2_with fail
 refine (HND.o w0 HX0.o).mono ?_;rintro e w1 ⟨u9, b9, rfl, hu9, hb9, he1⟩;simp only [Nd.op, Nd.kind, Nd.fa, Nd.a, Nd.ins, Nd.body] at hu9 hb9 ⊢;obtain ⟨A9, c9, rfl⟩ := hu9.form;obtain ⟨A8, c8, rfl⟩ := hb9.form;have hx2 := he1.alloc (a0o opq kind fa a (.slice A9 ins.length c9) (.slice A8 body.length c8));have HX2 := hid (HX0.o.trans hx2);have HB2 := hid (HB0.o.ext hx2);have HNB := hid (Blk.new w1 101 #[.int .i64 opq, .slice A9 ins.length c9, .int .i64 kind, .int .i64 fa, .int .i64 a, .slice A8 body.length c8]);clear hu9 hb9 he1 hx2 c0 c1 c2 c3 c4 c5 HX0 HB0
 go_upto_region 2 with fail
 generalize w1.heap.size = q8 at *;generalize w1.alloc (a0o opq kind fa a (.slice A9 ins.length c9) (.slice A8 body.length c8)) = w2 at *;obtain ⟨c0, c1, c2, c3, c4, c5⟩ := HB2.o.cells
 go_wp2_with fail
 refine (HLO.o w2 HX2.o).mono ?_;rintro e w3 ⟨rfl, he3⟩;have HX3 := hid (HX2.o.trans he3);have HB3 := hid (HB2.o.ext he3);have HN3 := hid (HNB.o.ext he3);clear he3 c0 c1 c2 c3 c4 c5 HX2 HB2 HNB;obtain ⟨c0, c1, c2, c3, c4, c5⟩ := HB3.o.cells
 go_wp2_with fail
 refine (HUS.o w3 HX3.o).mono ?_;rintro e w4 ⟨uu, rfl, huu, he4⟩;obtain ⟨AU, cU, rfl⟩ := huu.form;have HU4 := hid huu;have HX4 := hid (HX3.o.trans he4);have HB4 := hid (HB3.o.ext he4);have HN4 := hid (HN3.o.ext he4);clear huu he4 c0 c1 c2 c3 c4 c5 HX3 HB3 HN3;obtain ⟨nr, hnr⟩ : ∃ k, k = n + 1 + 1 + 1 := ⟨_, rfl⟩;rw [← hnr] at HPS ⊢;have HNR := hid hnr;clear hnr
 go_wp2
 go_loopw [12] (fun iv wr => ∃ k : Nat, k ≤ US.length ∧ iv = .int .i64 (k : Int) ∧ (∀ u ∈ US.take k, ¬ u.1 = (q1, q2)) ∧ Ext w4 wr) (fun iv _ => US.length - (intOf iv).toNat)
 case atStart => exact ⟨0, Nat.zero_le _, rfl, by simp, Ext.refl _⟩
 case round =>
 obtain ⟨k, hk, rfl, hno, hext⟩ := hrel;have HNO := hid hno;have HE := hid hext;have HBR := hid (HB4.o.ext hext);have HUR := hid (HU4.o.ext hext);have hkb : k ≤ 1000000 := by have := HUL.o; omega
 clear hno hext
 by_cases hlt : k < US.length
 · have r1 : (k : Int) < (US.length : Int) := by omega
   have r0 : 0 ≤ (k : Int) := by omega
   have HLT := hid hlt;obtain ⟨bU, oU, hAU, hcU⟩ := RE.at_ HUR.o hlt;have HTK := hid (List.take_succ_eq_append_getElem hlt);have HHT := hid (fun e => b7t (q := (q1, q2)) hlt e)
   generalize US[k] = z at *;obtain ⟨⟨z1, z2⟩, z3⟩ := z;have y0 : wr.cell? ⟨bU, oU + k * 3, none⟩ = some (.int .i64 z1) := hcU 0 _ rfl;have y1 : wr.cell? ⟨bU, oU + k * 3 + 1, none⟩ = some (.int .i64 z2) := hcU 1 _ rfl;subst hAU;have a2 : wr.cell? ⟨n + 1 + 1, 0, none⟩ = some (.int .i64 q1) := HBR.o.q.cell 0;have a3 : wr.cell? ⟨n + 1 + 1, 1, none⟩ = some (.int .i64 q2) := HBR.o.q.cell 1;clear hcU hlt hk
   by_cases hq : (z1, z2) = (q1, q2)
   · have hd := decide_eq_true hq
     have HR := hid (show AF = some (decide (p2 < 0) && decide (0 ≤ q2), 0) from by rw [HARC.o, if_pos (HHT.o hq)])
     have heq := a6Z z1 z2 q1 q2;rw [hd] at heq;clear hq
     go_wp2
     refine yx ?_;refine ya ?_;refine yl2 y0 y1 ?_;refine yl2 a2 a3 ?_;refine a0m rfl rfl (a03 rfl) Ext.refl rfl ?_; apply Exists.intro; refine ⟨?_, ?_⟩
     · intro a w' hR h1 h2
       have e1 : _ = _ := h1;have e2 : _ = _ := h2;have hq9 := heq w';go_simp;rfl
     refine a02 ?_;intro wz hx5 hS
     iterate 7 (rintro _ rfl)
     dsimp only [a0w];go_simp;have hx5 : Ext wr wz := hx5;have HXE := hid ((HX4.o.trans HE.o).trans hx5);have HBZ := hid (HBR.o.ext hx5);clear hx5 hS y0 y1 a2 a3 heq hd;have c3 : wz.cell? ⟨n + 1, 1, none⟩ = some (.int .i64 p2) := HBZ.o.p.cell 1;have c5 : wz.cell? ⟨n + 1 + 1, 1, none⟩ = some (.int .i64 q2) := HBZ.o.q.cell 1;have HRB := hid (show Blk wz nr 107 #[.bool false, .int .i64 0] from by rw [HNR.o]; exact HBZ.o.r)
     have s0 := HRB.o.cell 0;have s1 := HRB.o.cell 1;have f0 := HRB.o.frozen 0;have f1 := HRB.o.frozen 1;have t0 := fun u => (HRB.o.a0E 0 u).frozen 1
     have t1 := fun u => (HRB.o.a0E 0 u).cell 1
     by_cases hp2 : p2 < 0
     · have e1 := decide_eq_true hp2
       by_cases hq2 : 0 ≤ q2
       · have e2 := decide_eq_true hq2
         have HR2 := hid (show AF = some (true, 0) from by rw [HR.o, e1, e2]; rfl)
         clear e1 e2
         go_wp2
         obtain ⟨y0, y1, hy⟩ := a5G HRB.o HXE.o HPS.o (.bool true) (.int .i64 0);generalize ((wz.setCell ⟨nr, 0, none⟩ (.bool true)).setCell ⟨nr, 1, none⟩ (.int .i64 0)) = wr9 at *;exact bodyPost_ret (v := .tuple #[.agg #[.bool true, .int .i64 0], .bool true]) (by simp [results, Tryz.results116, go_sem, y0, y1]) rfl ⟨by rw [HR2.o]; rfl, hy⟩
       have e2 := decide_eq_false hq2;have HR2 := hid (show AF = some (false, 0) from by rw [HR.o, e1, e2]; rfl)
       clear e1 e2
       go_wp2
       obtain ⟨y0, y1, hy⟩ := a5G HRB.o HXE.o HPS.o (.bool false) (.int .i64 0);generalize ((wz.setCell ⟨nr, 0, none⟩ (.bool false)).setCell ⟨nr, 1, none⟩ (.int .i64 0)) = wr9 at *;exact bodyPost_ret (v := .tuple #[.agg #[.bool false, .int .i64 0], .bool true]) (by simp [results, Tryz.results116, go_sem, y0, y1]) rfl ⟨by rw [HR2.o]; rfl, hy⟩
     have e1 := decide_eq_false hp2;have HR2 := hid (show AF = some (false, 0) from by rw [HR.o, e1]; rfl)
     clear e1
     go_wp2
     obtain ⟨y0, y1, hy⟩ := a5G HRB.o HXE.o HPS.o (.bool false) (.int .i64 0);generalize ((wz.setCell ⟨nr, 0, none⟩ (.bool false)).setCell ⟨nr, 1, none⟩ (.int .i64 0)) = wr9 at *;exact bodyPost_ret (v := .tuple #[.agg #[.bool false, .int .i64 0], .bool true]) (by simp [results, Tryz.results116, go_sem, y0, y1]) rfl ⟨by rw [HR2.o]; rfl, hy⟩
   have hd := decide_eq_false hq
   have HN2 := hid (show ∀ u ∈ US.take (k + 1), ¬ u.1 = (q1, q2) from by
    rw [HTK.o];intro u hu
    rcases List.mem_append.1 hu with e | e
    · exact HNO.o u e
    rw [List.mem_singleton] at e; subst e; exact hq)
   have heq := a6Z z1 z2 q1 q2;rw [hd] at heq;clear hq
   go_wp2
   refine yx ?_;refine ya ?_;refine yl2 y0 y1 ?_;refine yl2 a2 a3 ?_;refine a0m rfl rfl (a03 rfl) Ext.refl rfl ?_; apply Exists.intro; refine ⟨?_, ?_⟩
   · intro a w' hR h1 h2
     have e1 : _ = _ := h1;have e2 : _ = _ := h2;have hq9 := heq w';go_simp;rfl
   refine a02 ?_;intro w5 hx5 hS
   iterate 7 (rintro _ rfl)
   dsimp only [a0w];go_simp;have hx5 : Ext wr w5 := hx5;have HX5 := hid (HE.o.trans hx5);clear hx5 hS y0 y1 a2 a3 heq hd
   go_wp2
   exact ⟨⟨k + 1, HLT.o, by go_num, HN2.o, HX5.o⟩, by have := HLT.o; simp [intOf]; omega⟩
 obtain rfl : k = US.length := by omega
 have r1 : ¬ (US.length : Int) < (US.length : Int) := by omega
 have HNA := hid (show ¬ US.any (fun u => u.1 == (q1, q2)) = true from by
  rw [List.any_eq_true];rintro ⟨u, hu, he⟩;have := HNO.o;rw [List.take_length] at this
  exact this u hu (by simpa using he))
 have HAR2 := hid (HARC.o.trans (if_neg HNA.o));clear hk hlt HARC;rename World => wz
 have HXE := hid (HX4.o.trans HE.o);have HRB := hid (show Blk wz nr 107 #[.bool false, .int .i64 0] from by rw [HNR.o]; exact HBR.o.r)
 by_cases hl0 : la < 0
 · have HR2 := hid (show AF = none from by rw [HAR2.o, if_pos hl0])
   have s0 := HRB.o.cell 0;have s1 := HRB.o.cell 1;have f0 := HRB.o.frozen 0;have f1 := HRB.o.frozen 1;have t0 := fun u => (HRB.o.a0E 0 u).frozen 1
   have t1 := fun u => (HRB.o.a0E 0 u).cell 1
   go_wp2
   obtain ⟨y0, y1, hy⟩ := a5G HRB.o HXE.o HPS.o (.bool false) (.int .i64 0);generalize ((wz.setCell ⟨nr, 0, none⟩ (.bool false)).setCell ⟨nr, 1, none⟩ (.int .i64 0)) = wr9 at *;exact bodyPost_ret (v := .tuple #[.agg #[.bool false, .int .i64 0], .bool false]) (by simp [results, Tryz.results116, go_sem, y0, y1]) rfl ⟨by rw [HR2.o]; rfl, hy⟩
 have HL0 := hid hl0;obtain ⟨ln, hlnl, i0, -, hlq, hN, h9, hb1, hb2, hi, hin, hhd, hlp, hi0, hin2⟩ := HLP.o (by omega)
 have hir : ∃ ir, l[ln].ins = i0 :: ir := by
  rw [hN] at hhd
  cases hins : l[ln].ins with
  | nil => rw [hins] at hi; simp at hi
  | cons x ir => rw [hins] at hhd; exact ⟨ir, by rw [← hhd]; rfl⟩
 obtain ⟨ir, hir⟩ := hir;have HVZ := HV0.o.ext HXE.o;obtain ⟨bA, oA, u7, b7, hAA, e0, e1, e2, e3, e4, e5, hu7, hb7⟩ := HVZ.at_ hlnl;rw [hir] at hu7;obtain ⟨Au, cu, rfl⟩ := hu7.form;obtain ⟨Ab, cb, rfl⟩ := hb7.form;obtain ⟨bU7, oU7, hAu, hcU7⟩ := hu7.at_ (i := 0) (by simp)
 have i0c : wz.cell? ⟨bU7, oU7, none⟩ = some (.int .i64 i0) := by have := hcU7 0 _ rfl; simpa using this
 have hil : ((0 : Int) < ((i0 :: ir).length : Int)) := by simp
 have HAR3 := hid (show AF = if ((p1, p2) : Int × Int) = IP ∧ opq = 10 then some (true, 0) else if ((p1, p2) : Int × Int) = LP ∧ (opq = 10 ∨ opq = 11) then some (false, 1) else if ((p1, p2) : Int × Int) = LP ∧ opq = 9 then some (true, 0) else none from by rw [HAR2.o, if_neg hl0])
 have hq1 : (ln : Int) < (l.length : Int) := by omega
 have HLN := hid hlnl;generalize l[ln].body = body7 at *;obtain ⟨bn, hbn⟩ : ∃ bn, body7.length = bn + 1 := ⟨body7.length - 1, by omega⟩
 have u1 : ((body7.length : Int) - 1) = (bn : Int) := by omega
 have u2 : IntKind.i64.wrap (bn : Int) = (bn : Int) := IntWalk.i64_in _ (by omega)
 have hLP : LP = ((ln : Int), (bn : Int)) := by rw [hlp, show body7.length - 1 = bn from by omega]
 rw [hin, hLP] at HAR3;generalize (i0 :: ir).length = il at *;have hbl9 : (body7.length : Int) ≤ 100 := by omega
 have HIN := hid hin2;subst hlq hAA hAu;clear hl0 HAR2 HLP hN h9 hb1 hb2 hi hin hhd hlp hir hbn hLP e0 e2 e3 e4 hu7 hb7 hcU7 HVZ HND HUS HLO HUL HOP HV0 HU4 HUR HNO HL0;have g0 : wz.cell? ⟨n, 0, none⟩ = some (.slice (some ⟨bA, oA, none⟩) l.length c) := HBR.o.g.cell 0
 go_upto_region 12 with fail
 have HX11 := hid ((Ext.refl wz).alloc (.cells #[.int .i64 (ln : Int), .int .i64 (bn : Int)] 27));have HLL := hid (Blk.new wz 27 #[.int .i64 (ln : Int), .int .i64 (bn : Int)]);have E1 := HX11.o.cell e1;have E2 := HX11.o.cell i0c;have E3 := HX11.o.cell g0;obtain ⟨pl, hpl⟩ : ∃ p, p = wz.heap.size := ⟨_, rfl⟩;rw [← hpl] at HLL ⊢;clear hpl e1 e5 i0c g0;generalize wz.alloc (.cells #[.int .i64 (ln : Int), .int .i64 (bn : Int)] 27) = w11 at *
 go_upto_region 13 with fail
 have HX12 := hid ((Ext.refl w11).alloc (.cells #[.int .i64 i0, .int .i64 (-1)] 27));have HII := hid (Blk.new w11 27 #[.int .i64 i0, .int .i64 (-1)]);obtain ⟨pi, hpi⟩ : ∃ p, p = w11.heap.size := ⟨_, rfl⟩;rw [← hpi] at HII ⊢;clear hpi E1 E2 E3;generalize w11.alloc (.cells #[.int .i64 i0, .int .i64 (-1)] 27) = wq at *;have HXZ := hid (HX11.o.trans HX12.o);have HXW := hid (HXE.o.trans HXZ.o);have HRW := hid (HRB.o.ext HXZ.o);have HBW := hid (HBR.o.ext HXZ.o);have HNW := hid (HN4.o.ext (HE.o.trans HXZ.o));have HLW := hid (HLL.o.ext HX12.o);clear HXE HRB HBR HN4 HLL HX11 HX12 HXZ;have HXE := HXW;have HRB := HRW;clear HB4 HX4 HE HXW HRW;have a0 := HNW.o.c0;have c2 : wq.cell? ⟨n + 1, 0, none⟩ = some (.int .i64 p1) := HBW.o.p.cell 0;have c3 : wq.cell? ⟨n + 1, 1, none⟩ = some (.int .i64 p2) := HBW.o.p.cell 1;have d0 := HLW.o.c0;have d1 := HLW.o.c1;have b0 := HII.o.c0;have b1 := HII.o.c1;have heqI := a6Z p1 p2 i0 (-1);have heqL := a6Z p1 p2 (ln : Int) (bn : Int);clear hil hq1 u1 u2 hbl9;have s0 := HRB.o.cell 0;have s1 := HRB.o.cell 1;have f0 := HRB.o.frozen 0;have f1 := HRB.o.frozen 1;have t0 := fun u => (HRB.o.a0E 0 u).frozen 1
 have t1 := fun u => (HRB.o.a0E 0 u).cell 1
 by_cases hI : ((p1, p2) : Int × Int) = (i0, -1)
 · have hIL : ¬ ((p1, p2) : Int × Int) = ((ln : Int), (bn : Int)) := by rw [hI]; intro e; injection e with a b; omega
   rw [decide_eq_true hI] at heqI;rw [decide_eq_false hIL] at heqL
   by_cases o10 : opq = 10
   · have HR2 := hid (show AF = some (true, 0) from by rw [HAR3.o, if_pos ⟨hI, o10⟩])
     have t10 : ((opq : Int) == 10) = true := by simpa using o10
     clear o10 hI hIL
     go_wp2
     obtain ⟨y0, y1, hy⟩ := a5G HRB.o HXE.o HPS.o (.bool true) (.int .i64 0);generalize ((wq.setCell ⟨nr, 0, none⟩ (.bool true)).setCell ⟨nr, 1, none⟩ (.int .i64 0)) = wr9 at *;exact bodyPost_ret (v := .tuple #[.agg #[.bool true, .int .i64 0], .bool true]) (by simp [results, Tryz.results116, go_sem, y0, y1]) rfl ⟨by rw [HR2.o]; rfl, hy⟩
   have HR2 := hid (show AF = none from by rw [HAR3.o, if_neg (fun e => o10 e.2), if_neg (fun e => hIL e.1), if_neg (fun e => hIL e.1)])
   have t10 : ((opq : Int) == 10) = false := by simpa using o10
   clear o10 hI hIL
   go_wp2
   obtain ⟨y0, y1, hy⟩ := a5G HRB.o HXE.o HPS.o (.bool false) (.int .i64 0);generalize ((wq.setCell ⟨nr, 0, none⟩ (.bool false)).setCell ⟨nr, 1, none⟩ (.int .i64 0)) = wr9 at *;exact bodyPost_ret (v := .tuple #[.agg #[.bool false, .int .i64 0], .bool false]) (by simp [results, Tryz.results116, go_sem, y0, y1]) rfl ⟨by rw [HR2.o]; rfl, hy⟩
 rw [decide_eq_false hI] at heqI
 by_cases hL : ((p1, p2) : Int × Int) = ((ln : Int), (bn : Int))
 · rw [decide_eq_true hL] at heqL
   by_cases o10 : opq = 10
   · have HR2 := hid (show AF = some (false, 1) from by rw [HAR3.o, if_neg (fun e => hI e.1), if_pos ⟨hL, .inl o10⟩])
     have t10 : ((opq : Int) == 10) = true := by simpa using o10
     clear o10 hI hL
     go_wp2
     obtain ⟨y0, y1, hy⟩ := a5G HRB.o HXE.o HPS.o (.bool false) (.int .i64 1);generalize ((wq.setCell ⟨nr, 0, none⟩ (.bool false)).setCell ⟨nr, 1, none⟩ (.int .i64 1)) = wr9 at *;exact bodyPost_ret (v := .tuple #[.agg #[.bool false, .int .i64 1], .bool true]) (by simp [results, Tryz.results116, go_sem, y0, y1]) rfl ⟨by rw [HR2.o]; rfl, hy⟩
   have t10 : ((opq : Int) == 10) = false := by simpa using o10
   by_cases o11 : opq = 11
   · have HR2 := hid (show AF = some (false, 1) from by rw [HAR3.o, if_neg (fun e => hI e.1), if_pos ⟨hL, .inr o11⟩])
     have t11 : ((opq : Int) == 11) = true := by simpa using o11
     clear o10 o11 hI hL
     go_wp2
     obtain ⟨y0, y1, hy⟩ := a5G HRB.o HXE.o HPS.o (.bool false) (.int .i64 1);generalize ((wq.setCell ⟨nr, 0, none⟩ (.bool false)).setCell ⟨nr, 1, none⟩ (.int .i64 1)) = wr9 at *;exact bodyPost_ret (v := .tuple #[.agg #[.bool false, .int .i64 1], .bool true]) (by simp [results, Tryz.results116, go_sem, y0, y1]) rfl ⟨by rw [HR2.o]; rfl, hy⟩
   have t11 : ((opq : Int) == 11) = false := by simpa using o11
   have HAR4 := hid (show AF = if ((p1, p2) : Int × Int) = ((ln : Int), (bn : Int)) ∧ opq = 9 then some (true, 0) else none from by rw [HAR3.o, if_neg (fun e => hI e.1), if_neg (fun e => by rcases e.2 with e | e; exact o10 e; exact o11 e)])
   by_cases o9 : opq = 9
   · have HR2 := hid (show AF = some (true, 0) from by rw [HAR4.o, if_pos ⟨hL, o9⟩])
     have t9 : ((opq : Int) == 9) = true := by simpa using o9
     clear o10 o11 o9 hI hL
     go_wp2
     obtain ⟨y0, y1, hy⟩ := a5G HRB.o HXE.o HPS.o (.bool true) (.int .i64 0);generalize ((wq.setCell ⟨nr, 0, none⟩ (.bool true)).setCell ⟨nr, 1, none⟩ (.int .i64 0)) = wr9 at *;exact bodyPost_ret (v := .tuple #[.agg #[.bool true, .int .i64 0], .bool true]) (by simp [results, Tryz.results116, go_sem, y0, y1]) rfl ⟨by rw [HR2.o]; rfl, hy⟩
   have HR2 := hid (show AF = none from by rw [HAR4.o, if_neg (fun e => o9 e.2)])
   have t9 : ((opq : Int) == 9) = false := by simpa using o9
   clear o10 o11 o9 hI hL
   go_wp2
   obtain ⟨y0, y1, hy⟩ := a5G HRB.o HXE.o HPS.o (.bool false) (.int .i64 0);generalize ((wq.setCell ⟨nr, 0, none⟩ (.bool false)).setCell ⟨nr, 1, none⟩ (.int .i64 0)) = wr9 at *;exact bodyPost_ret (v := .tuple #[.agg #[.bool false, .int .i64 0], .bool false]) (by simp [results, Tryz.results116, go_sem, y0, y1]) rfl ⟨by rw [HR2.o]; rfl, hy⟩
 rw [decide_eq_false hL] at heqL;have HR2 := hid (show AF = none from by rw [HAR3.o, if_neg (fun e => hI e.1), if_neg (fun e => hL e.1), if_neg (fun e => hL e.1)])
 clear hI hL
 go_wp2
 obtain ⟨y0, y1, hy⟩ := a5G HRB.o HXE.o HPS.o (.bool false) (.int .i64 0);generalize ((wq.setCell ⟨nr, 0, none⟩ (.bool false)).setCell ⟨nr, 1, none⟩ (.int .i64 0)) = wr9 at *;exact bodyPost_ret (v := .tuple #[.agg #[.bool false, .int .i64 0], .bool false]) (by simp [results, Tryz.results116, go_sem, y0, y1]) rfl ⟨by rw [HR2.o]; rfl, hy⟩
end Go.Proofs.YtdkejfjcchlnpaaGreat
namespace Go.Ox.Pl
open Go.Ox.Gr Go.Proofs.YtdkejfjcchlnpaaGreat
def b7u (g : G) (p q : P2) : Option Ar := (a5Y g p q).map fun w => ((p, q), w)
theorem b0j (g : G) (p : P2) : a7e g p = (gPl g).filterMap (b7u g p) := rfl
theorem b3J (g : G) (p : P2) : (a7e g p).length ≤ (gPl g).length := by rw [b0j]; exact List.length_filterMap_le _ _
theorem a3s {α β : Type} (f : α → List β) (n : Nat) : ∀ (l : List α), (∀ a ∈ l, (f a).length ≤ n) → (l.flatMap f).length ≤ l.length * n
 | [], _ => by simp
 | a :: l, h => by
  have h1 := a3s f n l fun b hb => h b (by simp [hb])
  have h2 := h a (by simp)
  rw [List.flatMap_cons, List.length_append, List.length_cons, Nat.succ_mul];omega
def a5O (g : G) : Bool := largeB g.1 || decide (20 < (a0b g.1).length)
theorem b5m {g : G} (h : a5O g = false) : (gPl g).length ≤ 20 := by
 unfold a5O at h;rw [Bool.or_eq_false_iff, decide_eq_false_iff_not] at h;unfold gPl
 split
 · omega
 simp
end Go.Ox.Pl
namespace Go.Proofs.YtdkejfjcchlnpaaGreat
open Go.RowKit Go.Ox Go.Ox.Gr Mo
attribute [local irreducible] RE OE a00
theorem Blk.b5n {w : World} {p : Nat} {T : TypeId} {a b : Value} (h : Blk w p T #[a, b]) (u v : Value) : Blk ((w.setCell ⟨p, 0, none⟩ u).setCell ⟨p, 1, none⟩ v) p T #[u, v] := by
 have := (h.a0E 0 u).a0E 1 v;simpa using this
theorem a4r (d : Nat) (v : Value) (g : G) (p : Pl.P2) (w : World) (hv : a00 d w v g.1) (hok : gOk g = true) :
 Calls Tryz.prog 21 #[gAg v g.2, plV p] w fun e w' => e = .returned (.bool (gNd g p).isSome) ∧ Ext w w' := by
 have HND := hid (fun W (h : Ext w W) => a8d d v g p W (hv.ext h) hok)
 obtain ⟨l, out⟩ := g;simp only at HND hv;generalize (gNd (l, out) p).getD default = nd at *;generalize (gNd (l, out) p).isSome = sp at *;obtain ⟨A, c, rfl⟩ := hv.form;obtain ⟨p1, p2⟩ := p;obtain ⟨op, ins, kind, fa, a, body⟩ := nd;have HX0 := hid (((Ext.refl w).alloc (gCs (.slice A l.length c) out)).alloc (.cells #[.int .i64 p1, .int .i64 p2] 27));have HB0 := hid ((Blk.new w 24 #[.slice A l.length c, .int .i64 out]).ext ((Ext.refl _).alloc (.cells #[.int .i64 p1, .int .i64 p2] 27)));have HP0 := hid (Blk.new (w.alloc (gCs (.slice A l.length c) out)) 27 #[.int .i64 p1, .int .i64 p2]);clear hv hok
 go_enter Tryz.func21, Tryz.ntmps21
 go_upto_region 1 with fail
 have hq1 : (w.alloc (gCs (.slice A l.length c) out)).heap.size = w.heap.size + 1 := by simp
 rw [hq1] at HP0;clear hq1;generalize w.heap.size = n at *;generalize (w.alloc (gCs (.slice A l.length c) out)).alloc (.cells #[.int .i64 p1, .int .i64 p2] 27) = w0 at *;have c0 := HB0.o.c0;have c1 := HB0.o.c1;have c2 := HP0.o.c0;have c3 := HP0.o.c1
 go_wp2_with fail
 refine (HND.o w0 HX0.o).mono ?_;rintro e w1 ⟨u9, b9, rfl, hu9, hb9, he1⟩;simp only [Nd.op, Nd.kind, Nd.fa, Nd.a, Nd.ins, Nd.body] at hu9 hb9 ⊢;obtain ⟨A9, c9, rfl⟩ := hu9.form;obtain ⟨A8, c8, rfl⟩ := hb9.form;have hx2 := he1.alloc (a0o op kind fa a (.slice A9 ins.length c9) (.slice A8 body.length c8));have HX2 := hid (HX0.o.trans hx2);clear hu9 hb9 he1 hx2 c0 c1 c2 c3 HX0 HB0 HP0
 go_wp2
 go_ret
 exact ⟨rfl, HX2.o⟩
end Go.Proofs.YtdkejfjcchlnpaaGreat
namespace Go.Proofs.YtdkejfjcchlnpaaGreat
open Go.RowKit Go.Ox Go.Ox.Gr Mo
attribute [local irreducible] RE OE a00
theorem b3K (d : Nat) (v : Value) (g : G) (w : World) (hv : a00 d w v g.1) (hok : gOk g = true) (hn : (gPl g).length ≤ 20) :
 Calls Tryz.prog 86 #[gAg v g.2] w fun e w' => ∃ u, e = .returned u ∧ RE w' u (Pl.a1I g) ∧ Ext w w' := by
 have hpl : gPl g = a0b g.1 := by unfold gPl; rw [if_pos hok]
 have HPL := hid (fun W (h : Ext w W) => a0W d v g.1 g.2 W (hv.ext h) (a2E (l := g.1) (out := g.2) hok).1 (a2E (l := g.1) (out := g.2) hok).2)
 rw [← hpl] at HPL;have HAC := hid (fun p q W (h : Ext w W) (hp : p ∈ gPl g) => b5l d v g p q W (hv.ext h) hok hp)
 have HAL := hid (show Pl.a1I g = (gPl g).flatMap (Pl.a7e g) from rfl);have HRR := hid (fun p => Pl.b0j g p)
 have HR1 := hid (fun p q => (show Pl.b7u g p q = (Pl.a5Y g p q).map fun w => (((p, q), w) : Pl.Ar) from rfl))
 have HRL := hid (fun p => Pl.b3J g p)
 have HN := hid hn;obtain ⟨l, out⟩ := g;simp only at HPL HAC hv;generalize Pl.a1I (l, out) = AL at *;generalize Pl.a7e (l, out) = AR at *;generalize Pl.b7u (l, out) = A1 at *;generalize Pl.a5Y (l, out) = AF at *;generalize gPl (l, out) = PL at *;obtain ⟨A, c, rfl⟩ := hv.form;have HX0 := hid ((Ext.refl w).alloc (gCs (.slice A l.length c) out));have HB0 := hid (Blk.new w 24 #[.slice A l.length c, .int .i64 out]);clear hv hok hn hpl
 go_enter Tryz.func86, Tryz.ntmps86
 go_upto_region 1 with fail
 obtain ⟨p, hp⟩ : ∃ p, p = w.heap.size := ⟨_, rfl⟩;rw [← hp] at HB0 ⊢;clear hp;generalize w.alloc (gCs (.slice A l.length c) out) = w0 at *;have c0 := HB0.o.c0;have c1 := HB0.o.c1
 go_wp2_with fail
 refine (HPL.o w0 HX0.o).mono ?_;rintro e w1 ⟨uv, rfl, huv, he1⟩;obtain ⟨AV, cV, rfl⟩ := huv.re.form;have HX1 := hid (HX0.o.trans he1);have HB1 := hid (HB0.o.ext he1);have HV1 := hid huv.re;have HPP := hid (show p < w1.heap.size from HB1.o.lt);clear huv he1 c0 c1 HPL
 go_wp2
 go_loopw [3, 5] (fun o iv wr => ∃ i : Nat, i ≤ PL.length ∧ iv = .int .i64 (i : Int) ∧ OE 144 w1.heap.size wr o ((PL.take i).flatMap AR) ∧ Ext w1 wr) (fun _ iv _ => PL.length - (intOf iv).toNat)
 case atStart => exact ⟨0, Nat.zero_le _, rfl, by simpa using OE.a2q _ _ _, Ext.refl _⟩
 case round =>
 obtain ⟨i, hi, rfl, ho, hx⟩ := hrel;rename World => wr
 have HI2 := hid (show i ≤ 20 from by have := HN.o; omega)
 have HO := hid ho;have HX := hid hx;obtain ⟨AO, cO, hvo⟩ := ho.re.form;clear ho hx
 by_cases hlt : i < PL.length
 · have r1 : (i : Int) < (PL.length : Int) := by omega
   have HLT := hid hlt;obtain ⟨x, hx⟩ : ∃ x, x = PL[i] := ⟨_, rfl⟩;have HFK1 := hid (show (PL.take (i + 1)).flatMap AR = (PL.take i).flatMap AR ++ AR x from by rw [hx]; exact Pl.flatk AR PL hlt)
   have HPI := hid (show PL[i]? = some x from by rw [List.getElem?_eq_getElem hlt]; exact congrArg some hx.symm)
   have HXM := hid (show x ∈ PL from by rw [hx]; exact List.getElem_mem hlt)
   have HARX := hid (HRR.o x)
   have HFL := hid (show ((PL.take i).flatMap AR).length ≤ 400 from by
    have h1 := Pl.a3s AR 20 (PL.take i) fun a _ => by have := HRL.o a; have := HN.o; omega
    have h2 : (PL.take i).length ≤ 20 := by rw [List.length_take]; have := HN.o; omega
    omega)
   generalize (PL.take i).flatMap AR = FK at *;subst hvo;clear hlt hx hi
   go_wp2
   go_loopw [3, 6] (fun o kv wq => ∃ k : Nat, k ≤ PL.length ∧ kv = .int .i64 (k : Int) ∧ OE 144 w1.heap.size wq o (FK ++ (PL.take k).filterMap (A1 x)) ∧ Ext w1 wq) (fun _ kv _ => PL.length - (intOf kv).toNat)
   case atStart => exact ⟨0, Nat.zero_le _, rfl, by simpa using HO.o, HX.o⟩
   case round =>
   obtain ⟨k, hk, rfl, ho, hxq⟩ := hrel;rename World => wq
   have HOQ := hid ho;have HXQ := hid hxq;obtain ⟨AQ, cQ, hvq⟩ := ho.re.form;clear ho;have hk20 : k ≤ 20 := by have := HN.o; omega
   by_cases hkl : k < PL.length
   · have r2 : (k : Int) < (PL.length : Int) := by omega
     have r20 : 0 ≤ (k : Int) := by omega
     have r10 : 0 ≤ (i : Int) := by omega
     have HKL := hid hkl;obtain ⟨hil, hix⟩ := List.getElem?_eq_some_iff.1 HPI.o;obtain ⟨bV, oV, hAV, y0, y1⟩ := rp2 (HV1.o.ext hxq) hil;replace y0 : wq.cell? ⟨bV, oV + i * 2, none⟩ = some (.int .i64 x.1) := by rw [← hix]; exact y0
     replace y1 : wq.cell? ⟨bV, oV + i * 2 + 1, none⟩ = some (.int .i64 x.2) := by rw [← hix]; exact y1
     obtain ⟨bV', oV', hAV', z0, z1⟩ := rp2 (HV1.o.ext hxq) hkl;rw [hAV] at hAV';injection hAV' with hAV'
     injection hAV' with hb hoff _
     subst hb hoff hAV;obtain ⟨y, hy⟩ : ∃ y, y = PL[k] := ⟨_, rfl⟩;have HTK := hid (show (PL.take (k + 1)).filterMap (A1 x) = (PL.take k).filterMap (A1 x) ++ (A1 x y).toList from by rw [hy]; exact Pl.fmk (A1 x) PL hkl)
     replace z0 : wq.cell? ⟨bV, oV + k * 2, none⟩ = some (.int .i64 y.1) := by rw [hy]; exact z0
     replace z1 : wq.cell? ⟨bV, oV + k * 2 + 1, none⟩ = some (.int .i64 y.2) := by rw [hy]; exact z1
     have HA1 := hid (HR1.o x y);have HCL := hid (fun W (hW : Ext wq W) => HAC.o x y W ((HX1.o.trans hxq).trans hW) HXM.o)
     generalize AF x y = fxy at *;obtain ⟨FQ, hFQ⟩ : ∃ FQ, FQ = FK ++ (PL.take k).filterMap (A1 x) := ⟨_, rfl⟩;have HFQ := hid hFQ
     have HFQL := hid (show FQ.length ≤ 800 from by
      rw [hFQ, List.length_append];have h1 := HFL.o;have h2 := List.length_filterMap_le (A1 x) (PL.take k);rw [List.length_take] at h2
      omega)
     rw [← hFQ] at HOQ hvq;clear hFQ;obtain ⟨x1, x2⟩ := x;obtain ⟨y1', y2'⟩ := y;simp only at y0 y1 z0 z1;subst hvq;have g0 := (HB1.o.ext hxq).c0;have g1 := (HB1.o.ext hxq).c1;have hA := World.block_lt_of_cell? wq _ g0;have hP := World.block_lt_of_cell? wq _ y0;simp only at hA hP;have hA1 : ¬ p = wq.heap.size := by omega
     have hP1 : ¬ bV = wq.heap.size := by omega
     obtain ⟨s1, s2, hss⟩ : ∃ s1 s2, fxy.getD (false, 0) = (s1, s2) := ⟨_, _, rfl⟩;rw [hss] at HCL;obtain ⟨iso, hiso⟩ : ∃ b, fxy.isSome = b := ⟨_, rfl⟩;rw [hiso] at HCL;have HSS := hid hss;have HIS := hid hiso;clear hxq hkl hk hy hix hil hss hiso HAC HRR HRL HR1
     go_upto_region 9 with fail
     go_cut [7, 8] (fun s7 s8 wx => ∃ n7, s7 = .pointer (some ⟨n7, 0, none⟩) ∧ s8 = .bool iso ∧ Blk wx n7 107 #[.bool s1, .int .i64 s2] ∧ Ext wq wx)
     case first =>
      go_region_with (go_at_call 116; refine (HCL.o _ (by repeat (first | exact Ext.refl _ | refine Ext.drew ?_ | refine Ext.alloc ?_ _))).mono ?_; rintro e w5 ⟨rfl, he5⟩; try (have HBN := hid (((Blk.new wq 107 #[.bool false, .int .i64 0]).ext (Ext.refl _).drew).ext he5); have b0 := HBN.o.cell 0; have b1 := HBN.o.cell 1; have f0 := HBN.o.frozen 0; have f1 := HBN.o.frozen 1; have t0 := fun u => (HBN.o.a0E 0 u).frozen 1; have t1 := fun u => (HBN.o.a0E 0 u).cell 1))
      all_goals go_wp2
      all_goals go_meet
      all_goals first
       | exact ⟨_, rfl, rfl, Blk.b5n HBN.o (.bool s1) (.int .i64 s2), (a5G HBN.o (((Ext.refl wq).alloc _).drew.trans he5) (Nat.le_refl _) (.bool s1) (.int .i64 s2)).2.2⟩
       | exact ⟨_, rfl, rfl, Blk.new w5 107 #[.bool s1, .int .i64 s2], ((Ext.refl wq).drew.trans he5).alloc _⟩
     case rest =>
     obtain ⟨n7, rfl, rfl, hb7, hx7⟩ := hcut;rename World => w7
     have HB7 := hid hb7;have HX7 := hid hx7;have d0 := hb7.c0;have d1 := hb7.c1;have y0 := hx7.cell y0;have y1 := hx7.cell y1;have z0 := hx7.cell z0;have z1 := hx7.cell z1;have HO7 := hid (HOQ.o.ext hx7);have HX17 := hid (HXQ.o.trans hx7);clear hb7 hx7 g0 g1 hA hP hA1 hP1 HCL HOQ
     cases iso with
     | false =>
      have HNN := hid (show FK ++ (PL.take (k + 1)).filterMap (A1 (x1, x2)) = FQ from by
       have h0 : fxy = none := by
        cases hf : fxy with
        | none => rfl
        | some z => have := HIS.o; rw [hf] at this; cases this
       rw [HTK.o, HA1.o, h0, HFQ.o]; simp)
      go_wp2
      exact ⟨⟨k + 1, HKL.o, by go_num, by rw [HNN.o]; exact HO7.o, HX17.o⟩, by have := HKL.o; simp [intOf]; omega⟩
     | true =>
     have HNN := hid (show FK ++ (PL.take (k + 1)).filterMap (A1 (x1, x2)) = FQ ++ [((((x1, x2), (y1', y2')), (s1, s2)) : Pl.Ar)] from by
      have h0 : fxy = some (s1, s2) := by
       cases hf : fxy with
       | none => have := HIS.o; rw [hf] at this; cases this
       | some z => have := HSS.o; rw [hf] at this; simpa using this
      rw [HTK.o, HA1.o, h0, HFQ.o]; simp)
     go_wp2
     refine a0j 12 [] [] Ext Ext (fun _ => True) (by kernel_rfl) (by kernel_rfl) (by kernel_rfl) (by kernel_rfl) (by kernel_rfl) (by kernel_rfl) (by kernel_rfl) (by rfl) (by rfl) (by kernel_rfl) (by kernel_rfl) (by kernel_rfl) (fun _ _ _ x y => x.trans y) Ext.refl (fun _ _ x => x) (Ext.refl _).drew (fun _ _ x _ => x) trivial ?_
     refine ya ?_;refine yl2 y0 y1 ?_;refine ya ?_;refine yl2 z0 z1 ?_;refine yl2 d0 d1 ?_;refine a0m rfl rfl (a03 rfl) Ext.refl rfl ?_; apply Exists.intro; refine ⟨?_, ?_⟩
     · intro a w' hR h1 h2 h3
       have e1 : _ = _ := h1;have e2 : _ = _ := h2;have e3 : _ = _ := h3;have q1 := e1; rw [Array.getD_eq_getD_getElem?] at q1;have q2 := e2; rw [Array.getD_eq_getD_getElem?] at q2;have q3 := e3; rw [Array.getD_eq_getD_getElem?] at q3;go_simp;rfl
     refine a0a (fun v w2 => RE w2 v [((((x1, x2), (y1', y2')), (s1, s2)) : Pl.Ar)]) rfl rfl (a03 rfl) rfl (by first | exact (fun _ _ _ h k => RE.ext h k) | exact (fun _ _ _ h k => RE.extD h k)) ?_ ?_
     · intro a w' hR h1 K hK
       have e1 : _ = _ := h1;have q1 : a.tmps[47]?.getD undef = .agg #[.int .i64 x1, .int .i64 x2, .int .i64 y1', .int .i64 y2', .bool s1, .int .i64 s2] := by simpa using e1
       go_simp;exact hK _ _ ((Ext.refl _).alloc _) (RE.lit _ #[.int .i64 x1, .int .i64 x2, .int .i64 y1', .int .i64 y2', .bool s1, .int .i64 s2] 144 1 [((((x1, x2), (y1', y2')), (s1, s2)) : Pl.Ar)] rfl (by omega) rfl)
     refine a02 ?_;intro w5 hx5 hS
     iterate 11 (rintro _ rfl)
     rintro v48 h48;dsimp only [a0w];go_simp;have hx5 : Ext w7 w5 := hx5;have HO5 := hid (HO7.o.ext hx5);have HX5 := hid (HX17.o.trans hx5);have HLIT := hid (show RE w5 v48 [((((x1, x2), (y1', y2')), (s1, s2)) : Pl.Ar)] from h48);clear hx5 hS h48;simp only [a0r, List.drop_succ_cons, List.drop_zero]
     go_wp2_with (refine a09 rfl a5V w5 (.tmp 37) (.tmp 48) rfl w1.heap.size _ _ FQ [((((x1, x2), (y1', y2')), (s1, s2)) : Pl.Ar)] rfl HO5.o rfl HLIT.o (by have := HFQL.o; simp; omega) (by have := HFQL.o; unfold maxLen; simp; omega) HX5.o.size ?_; intro v8 w8 ho8 hg8 hat8)
     exact ⟨⟨k + 1, HKL.o, by go_num, by rw [HNN.o]; exact ho8, HX5.o.grown hat8 fun g hg => (HO5.o.own.lt g hg).1⟩, by have := HKL.o; simp [intOf]; omega⟩
   obtain rfl : k = PL.length := by omega
   have r2 : ¬ (PL.length : Int) < (PL.length : Int) := by omega
   have HNN := hid (show (PL.take (i + 1)).flatMap AR = FK ++ (PL.take PL.length).filterMap (A1 x) from by rw [HFK1.o, HARX.o, List.take_length])
   clear hkl hk hxq
   go_wp2
   exact ⟨⟨i + 1, HLT.o, by go_num, by rw [HNN.o]; exact HOQ.o, HXQ.o⟩, by have := HLT.o; simp [intOf]; omega⟩
 obtain rfl : i = PL.length := by omega
 have r1 : ¬ (PL.length : Int) < (PL.length : Int) := by omega
 rw [List.take_length, ← HAL.o] at HO hvo;subst hvo;have HR := hid HO.o.re;have HG := hid (HX1.o.trans HX.o);clear hi hlt HO
 go_wp2
 go_ret
 exact ⟨_, rfl, HR.o, HG.o⟩
end Go.Proofs.YtdkejfjcchlnpaaGreat
namespace Go.Ox.Pl
open Go.Ox.Gr Go.Proofs.YtdkejfjcchlnpaaGreat
theorem a3u {p : P2} {l : List P2} (h : p ∈ l) : ∃ j, ∃ (hj : j < l.length), a2a p l 0 = (j : Int) ∧ l[j] = p := by
 have key : ∀ (l : List P2) (i : Nat), p ∈ l → ∃ j, ∃ (hj : j < l.length), a2a p l i = ((i + j : Nat) : Int) ∧ l[j] = p := by
  intro l
  induction l with
  | nil => intro i h; simp at h
  | cons x l ih =>
  intro i h
  by_cases q : x = p
  · exact ⟨0, by simp, by rw [a5o q]; rfl, q⟩
  rcases List.mem_cons.1 h with e | e
  · exact absurd e.symm q
  obtain ⟨j, hj, h1, h2⟩ := ih (i + 1) e;exact ⟨j + 1, by simpa using hj, by rw [a2V q, h1]; congr 1; omega, by simpa using h2⟩
 obtain ⟨j, hj, h1, h2⟩ := key l 0 h;exact ⟨j, hj, by rw [h1, Nat.zero_add], h2⟩
theorem b3L (g : G) : (gPl g).Nodup := (a4q g).imp fun {a b} h e => by subst e; unfold plt at h; omega
def bet (M : Mp) (p v : P2) (w : Wy) : Bool := decide (better M p v w)
end Go.Ox.Pl
namespace Go.Proofs.YtdkejfjcchlnpaaGreat
open Go.RowKit Go.Ox Go.Ox.Gr Mo
theorem b3M {l : List Pl.P2} (h : l.Nodup) {i j : Nat} {hi : i < l.length} {hj : j < l.length} (e : l[i] = l[j]) : i = j := by
 rcases Nat.lt_trichotomy i j with q | q | q
 · exact absurd e (List.pairwise_iff_getElem.1 h i j hi hj q)
 · exact q
 exact absurd e.symm (List.pairwise_iff_getElem.1 h j i hj hi q)
theorem elemBo : Elem Tryz.prog 140 4 (.bool false) 1 1 := Elem.mk' Tryz.underlying140 (by kernel_rfl) rfl (by omega)
theorem elemWy : Elem Tryz.prog 141 107 (.agg #[.bool false, .int .i64 0]) 2 16 := Elem.mk' Tryz.underlying141 (by kernel_rfl) rfl (by omega)
theorem b5V {w : World} {b n k : Nat} {E : TypeId} {xs : List Value} (h : w.ownsRow b E k (.slice (some ⟨b, 0, none⟩) n n) n xs) : ∃ cur, Blk w b E cur ∧ cur.size = n * k ∧ cur.toList = xs := by
 obtain ⟨h1, h2⟩ := h
 rcases h2 with ⟨h2, _⟩ | ⟨b', cap, cur, he, hb, hh, hnc, hcm, hcs, hx⟩
 · cases h2
 injection he with e1 e2 e3
 injection e1 with e1
 injection e1 with e1
 subst e1 e3;refine ⟨cur, hh, hcs, ?_⟩;rw [← hx, List.take_of_length_le];rw [Array.length_toList, hcs];exact Nat.le_refl _
structure WS2 (w : World) (bh bw : Nat) (PL : List Pl.P2) (M : Pl.Mp) : Prop where
 ha : ∃ cur, Blk w bh 4 cur ∧ cur.size = PL.length ∧ ∀ j (hj : j < PL.length), cur[j]? = some (.bool (M PL[j]).isSome)
 wa : ∃ cur, Blk w bw 107 cur ∧ cur.size = PL.length * 2 ∧ ∀ j (hj : j < PL.length), cur[j * 2]? = some (.bool ((M PL[j]).getD (false, 0)).1) ∧ cur[j * 2 + 1]? = some (.int .i64 ((M PL[j]).getD (false, 0)).2)
theorem WS2.ext {w w' : World} {bh bw : Nat} {PL : List Pl.P2} {M : Pl.Mp} (h : WS2 w bh bw PL M) (he : Ext w w') : WS2 w' bh bw PL M := by
 obtain ⟨⟨c1, h1, h2⟩, c2, h3, h4⟩ := h;exact ⟨⟨c1, h1.ext he, h2⟩, c2, h3.ext he, h4⟩
theorem WS2.lt {w : World} {bh bw : Nat} {PL : List Pl.P2} {M : Pl.Mp} (h : WS2 w bh bw PL M) : bh < w.heap.size ∧ bw < w.heap.size := by
 obtain ⟨⟨c1, h1, h2⟩, c2, h3, h4⟩ := h;exact ⟨h1.lt, h3.lt⟩
theorem WS2.get {w : World} {bh bw : Nat} {PL : List Pl.P2} {M : Pl.Mp} (h : WS2 w bh bw PL M) {j : Nat} (hj : j < PL.length) {x : Pl.P2} (hx : PL[j] = x) :
 w.cell? ⟨bh, j, none⟩ = some (.bool (M x).isSome) ∧ w.cell? ⟨bw, j * 2, none⟩ = some (.bool ((M x).getD (false, 0)).1) ∧ w.cell? ⟨bw, j * 2 + 1, none⟩ = some (.int .i64 ((M x).getD (false, 0)).2) ∧
 w.frozen? ⟨bh, j, none⟩ = false ∧ w.frozen? ⟨bw, j * 2, none⟩ = false ∧ w.frozen? ⟨bw, j * 2 + 1, none⟩ = false := by
 obtain ⟨⟨c1, h1, h2, h3⟩, c2, h4, h5, h6⟩ := h;subst hx;exact ⟨(h1.cell j).trans (h3 j hj), (h4.cell _).trans (h6 j hj).1, (h4.cell _).trans (h6 j hj).2, h1.frozen _, h4.frozen _, h4.frozen _⟩
theorem WS2.put {w : World} {bh bw : Nat} {PL : List Pl.P2} {M : Pl.Mp} (h : WS2 w bh bw PL M) (hne : bh ≠ bw) (hnd : PL.Nodup) {j : Nat} (hj : j < PL.length) {x : Pl.P2} (hx : PL[j] = x) (n : Pl.Wy) :
 WS2 (((w.setCell ⟨bh, j, none⟩ (.bool true)).setCell ⟨bw, j * 2, none⟩ (.bool n.1)).setCell ⟨bw, j * 2 + 1, none⟩ (.int .i64 n.2)) bh bw PL (Pl.upd M x n) ∧
 WS2 (((w.setCell ⟨bw, j * 2, none⟩ (.bool n.1)).setCell ⟨bw, j * 2 + 1, none⟩ (.int .i64 n.2)).setCell ⟨bh, j, none⟩ (.bool true)) bh bw PL (Pl.upd M x n) := by
 obtain ⟨⟨c1, h1, h2, h3⟩, c2, h4, h5, h6⟩ := h
 have hh : ∀ i (hi : i < PL.length), (c1.setIfInBounds j (.bool true))[i]? = some (.bool (Pl.upd M x n PL[i]).isSome) := by
  intro i hi;rw [Array.getElem?_setIfInBounds]
  by_cases e : j = i
  · subst e
    rw [if_pos rfl, if_pos (by omega), hx, Pl.a8i]; rfl
  rw [if_neg e, h3 i hi];have hne : PL[i] ≠ x := fun q => e ((b3M hnd) (hx.trans q.symm))
  rw [Pl.b06 M n hne]
 have hw : ∀ i (hi : i < PL.length), ((c2.setIfInBounds (j * 2) (.bool n.1)).setIfInBounds (j * 2 + 1) (.int .i64 n.2))[i * 2]? = some (.bool ((Pl.upd M x n PL[i]).getD (false, 0)).1) ∧ ((c2.setIfInBounds (j * 2) (.bool n.1)).setIfInBounds (j * 2 + 1) (.int .i64 n.2))[i * 2 + 1]? = some (.int .i64 ((Pl.upd M x n PL[i]).getD (false, 0)).2) := by
  intro i hi;rw [Array.getElem?_setIfInBounds, Array.getElem?_setIfInBounds, Array.getElem?_setIfInBounds, Array.getElem?_setIfInBounds]
  by_cases e : j = i
  · subst e
    rw [if_neg (by omega), if_pos rfl, if_pos (by omega), if_pos rfl, if_pos (by rw [Array.size_setIfInBounds]; omega), hx, Pl.a8i]
    exact ⟨rfl, rfl⟩
  have hne : PL[i] ≠ x := fun q => e ((b3M hnd) (hx.trans q.symm))
  rw [if_neg (by omega), if_neg (by omega), if_neg (by omega), if_neg (by omega), Pl.b06 M n hne]
  exact h6 i hi
 refine ⟨⟨⟨_, ((h1.a0E j _).far (p := ⟨bw, j * 2, none⟩) hne _).far (p := ⟨bw, j * 2 + 1, none⟩) hne _, by rw [Array.size_setIfInBounds]; exact h2, hh⟩, _, ((h4.far (p := ⟨bh, j, none⟩) (Ne.symm hne) _).a0E (j * 2) _).a0E (j * 2 + 1) _, by rw [Array.size_setIfInBounds, Array.size_setIfInBounds]; exact h5, hw⟩,
  ⟨⟨_, ((h1.far (p := ⟨bw, j * 2, none⟩) hne _).far (p := ⟨bw, j * 2 + 1, none⟩) hne _).a0E j _, by rw [Array.size_setIfInBounds]; exact h2, hh⟩, _, ((h4.a0E (j * 2) _).a0E (j * 2 + 1) _).far (p := ⟨bh, j, none⟩) (Ne.symm hne) _, by rw [Array.size_setIfInBounds, Array.size_setIfInBounds]; exact h5, hw⟩⟩
theorem WS2.mark {w : World} {bh bw : Nat} {PL : List Pl.P2} {M M' : Pl.Mp} (h : WS2 w bh bw PL M) (hne : bh ≠ bw) (hnd : PL.Nodup) {j : Nat} (hj : j < PL.length) {x : Pl.P2} (hx : PL[j] = x) {b : Bool} (h1 : (M' x).isSome = b) (h2 : (M' x).getD (false, 0) = (M x).getD (false, 0)) (h3 : ∀ q, q ∈ PL → q ≠ x → M' q = M q) :
 WS2 (w.setCell ⟨bh, j, none⟩ (.bool b)) bh bw PL M' := by
 obtain ⟨⟨c1, g1, g2, g3⟩, c2, g4, g5, g6⟩ := h;refine ⟨⟨_, g1.a0E j _, by rw [Array.size_setIfInBounds]; exact g2, fun i hi => ?_⟩, _, g4.far (p := ⟨bh, j, none⟩) (Ne.symm hne) _, g5, fun i hi => ?_⟩
 · rw [Array.getElem?_setIfInBounds]
   by_cases e : j = i
   · subst e
     rw [if_pos rfl, if_pos (by omega), hx, h1]
   rw [if_neg e, g3 i hi, h3 _ (List.getElem_mem hi) (fun q => e ((b3M hnd) (hx.trans q.symm)))]
 by_cases e : j = i
 · subst e
   rw [hx, h2, ← hx];exact g6 j hi
 rw [h3 _ (List.getElem_mem hi) (fun q => e ((b3M hnd) (hx.trans q.symm)))]
 exact g6 i hi
theorem nePlD (a b c d : Int) (w : World) : (binOp .neq 27 (.agg #[.int .i64 a, .int .i64 b]) (.agg #[.int .i64 c, .int .i64 d])).run Tryz.prog w = .ok (.bool (!decide ((a, b) = (c, d)))) w := by
 rw [nePl]
 have h : pB a b c d = decide ((a, b) = (c, d)) := by
  unfold pB
  by_cases h1 : a = c <;> by_cases h2 : b = d <;> simp [h1, h2]
 rw [h]
theorem bet_eq (M : Pl.Mp) (p v : Pl.P2) (n : Pl.Wy) : Pl.bet M p v n = (!decide (v = p) && (!(M v).isSome || (decide (n.2 < ((M v).getD (false, 0)).2) || (decide (n.2 = ((M v).getD (false, 0)).2) && (n.1 && !((M v).getD (false, 0)).1))))) := by
 have e : Pl.bet M p v n = decide (v ≠ p ∧ ((M v).isNone = true ∨ Pl.less n ((M v).getD (false, 0)) = true)) := rfl;rw [e];have e2 : Pl.less n ((M v).getD (false, 0)) = (decide (n.2 < ((M v).getD (false, 0)).2) || (decide (n.2 = ((M v).getD (false, 0)).2) && (n.1 && !((M v).getD (false, 0)).1))) := rfl;rw [← e2];generalize (M v) = o;generalize Pl.less n (o.getD (false, 0)) = b
 by_cases h1 : v = p <;> cases o <;> cases b <;> simp [h1]
theorem Ext.put {w0 w : World} (h : Ext w0 w) {b o : Nat} {s : Option Nat} (hb : w0.heap.size ≤ b) (u : Value) : Ext w0 (w.setCell ⟨b, o, s⟩ u) :=
 h.a42 ((ExtQ.refl (fun k => k = b) w).setCell (p := ⟨b, o, s⟩) rfl u) (fun k hk => by omega)
def mk0 (PL : List Pl.P2) (p : Pl.P2) (i : Nat) : Pl.Mp := fun q => if p ∈ PL.take i then Pl.M0 p q else none
theorem b7v {w : World} {bh bw : Nat} {PL : List Pl.P2} {p : Pl.P2} {c1 c2 : Array Value} (h1 : Blk w bh 4 c1) (s1 : c1.size = PL.length * 1) (e1 : c1.toList = (madeCells (Value.bool false).cells (PL.length * 1)).toList) (h2 : Blk w bw 107 c2) (s2 : c2.size = PL.length * 2) (e2 : c2.toList = (madeCells (Value.agg #[.bool false, .int .i64 0]).cells (PL.length * 2)).toList) :
 WS2 w bh bw PL (mk0 PL p 0) := by
 have e1 : c1 = madeCells (Value.bool false).cells (PL.length * 1) := by rw [← Array.toList_inj]; exact e1
 have e2 : c2 = madeCells (Value.agg #[.bool false, .int .i64 0]).cells (PL.length * 2) := by rw [← Array.toList_inj]; exact e2
 have m0 : ∀ q, mk0 PL p 0 q = none := fun q => by unfold mk0; rw [if_neg (by simp)]
 refine ⟨⟨c1, h1, by omega, fun j hj => ?_⟩, c2, h2, s2, fun j hj => ?_⟩
 · rw [m0, e1]
   unfold madeCells;rw [Array.getElem?_map, Array.getElem?_range, if_pos (by omega)]
   simp [Value.cells, Nat.mod_one]
 rw [m0, e2];have a1 : (j * 2 + 1) % 2 = 1 := by omega
 have a0 : (j * 2) % 2 = 0 := by omega
 unfold madeCells;rw [Array.getElem?_map, Array.getElem?_map, Array.getElem?_range, Array.getElem?_range, if_pos (by omega), if_pos (by omega)]
 simp [Value.cells, a1, a0]
theorem mk0_s {PL : List Pl.P2} {p : Pl.P2} (hnd : PL.Nodup) {i : Nat} (hi : i < PL.length) {x : Pl.P2} (hx : PL[i] = x) :
 (mk0 PL p (i + 1) x).isSome = decide (x = p) ∧ (mk0 PL p (i + 1) x).getD (false, 0) = (mk0 PL p i x).getD (false, 0) ∧ ∀ q, q ∈ PL → q ≠ x → mk0 PL p (i + 1) q = mk0 PL p i q := by
 have hxt : x ∉ PL.take i := by
  intro hm;obtain ⟨k, hk, e⟩ := List.getElem_of_mem hm;rw [List.length_take] at hk;rw [List.getElem_take] at e;have := (b3M hnd) (e.trans hx.symm);omega
 have ht : ∀ y, y ∈ PL.take (i + 1) ↔ y ∈ PL.take i ∨ y = x := fun y => by
  rw [List.take_succ_eq_append_getElem hi, List.mem_append, List.mem_singleton, hx]
 unfold mk0;refine ⟨?_, ?_, fun q hq hne => ?_⟩
 · by_cases e : x = p
   · subst e
     rw [if_pos ((ht x).2 (.inr rfl))]; simp [Pl.M0]
   rw [decide_eq_false e]
   split
   · unfold Pl.M0; rw [if_neg e]; rfl
   rfl
 · by_cases e : x = p
   · subst e
     rw [if_pos ((ht x).2 (.inr rfl)), if_neg hxt]; simp [Pl.M0]
   split <;> split <;> simp [Pl.M0, e]
 by_cases e : p = x
 · subst e
   rw [if_pos ((ht p).2 (.inr rfl)), if_neg hxt];unfold Pl.M0; rw [if_neg hne]
 by_cases k : p ∈ PL.take i
 · rw [if_pos ((ht p).2 (.inl k)), if_pos k]
 rw [if_neg (fun h => by rcases (ht p).1 h with h | h; exact k h; exact e h), if_neg k]
theorem b7w {PL : List Pl.P2} {p : Pl.P2} (hp : p ∈ PL) : mk0 PL p PL.length = Pl.M0 p := by
 funext q
 unfold mk0;rw [List.take_length, if_pos hp]
end Go.Proofs.YtdkejfjcchlnpaaGreat
