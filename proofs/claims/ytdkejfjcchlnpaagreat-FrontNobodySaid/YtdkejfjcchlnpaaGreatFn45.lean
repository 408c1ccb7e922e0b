/-
  FrLives, FrNobodyL, GrArgs, MomArgs, packed: what the claim needs of them.
-/
import Derived.Test.YtdkejfjcchlnpaaGreatFn44
set_option maxHeartbeats 40000000
open Go.Lib (hid)
set_option linter.unusedSimpArgs false
set_option linter.unusedVariables false
set_option maxRecDepth 100000
namespace Go.Ox.Fr
open Go.Ox.Gr Go.Ox.Pl Go.Proofs.YtdkejfjcchlnpaaGreat Go.Proofs.YtdkejfjcchlnpaaGreat.Mo Go.Proofs.YtdkejfjcchlnpaaGreat.Ct
def g0 : G := (a2j, 2)
abbrev k1 : Cnt.K := ((2, 0), (0, 3))
abbrev k2 : Cnt.K := ((2, 0), (0, 4))
abbrev C1 : List Cnt.S := [(((2, 6), (0, 3)), 1)]
theorem b4u : gOk g0 = true := by decide +kernel
theorem live_n : (gPl g0).length = 10 := by decide +kernel
theorem b2D : Cnt.add [] ((2, 6), (0, 3)) 1 = (C1, 0) := by decide +kernel
theorem a2k : may g0 (2, 0) = 0 := by decide +kernel
theorem b4v : may g0 (9, 0) = 1 := by decide +kernel
theorem a7v : comes g0 C1 (2, 0) no = [(0, 4)] := by decide +kernel
theorem b4w : Mom.a2s (comes g0 C1 (2, 0) no) = [(0, 4)] := by rw [a7v]; decide +kernel
theorem b1f : b17 g0 [] (2, 0) (0, 3) = 0 := by unfold b17; rw [a2k]; decide +kernel
theorem b4x : b2y g0 [] (2, 0) (0, 3) = [k1] := by unfold b2y; rw [b1f]; decide +kernel
theorem b1g : b17 g0 [k1] (2, 0) (0, 4) = 0 := by unfold b17; rw [a2k]; decide +kernel
theorem b4y : b2y g0 [k1] (2, 0) (0, 4) = [k1, k2] := by unfold b2y; rw [b1g]; decide +kernel
theorem b1h : b17 g0 [k1, k2] (2, 0) (0, 4) = 5 := by unfold b17; rw [a2k]; decide +kernel
theorem b4z : b2y g0 [k1, k2] (2, 0) (0, 4) = [k1, k2] := by unfold b2y; rw [b1h]; decide +kernel
theorem b1i : due g0 C1 (2, 0) (0, 3) = true := by unfold due; rw [a2k]; decide +kernel
theorem b1j : due g0 C1 (2, 0) (0, 4) = false := by unfold due; rw [a2k]; decide +kernel
theorem b4A : ([k1, k2].filter fun k => due g0 C1 k.1 k.2) = [k1] := by simp [List.filter_cons, b1i, b1j]
theorem b4B : ([k1, k2].filter fun k => !due g0 C1 k.1 k.2) = [k2] := by simp [List.filter_cons, b1i, b1j]
theorem b4C : a3E g0 C1 (2, 0) (0, 3) = true := by unfold a3E; rw [a2k, a7v]; decide +kernel
theorem b4D : a3E g0 C1 (2, 0) (0, 4) = false := by unfold a3E; rw [a2k, a7v]; decide +kernel
theorem b4E : due g0 C1 (2, 6) (0, 3) = true := by decide +kernel
theorem b4F : a3E g0 C1 (2, 6) (0, 3) = false := by decide +kernel
end Go.Ox.Fr
namespace Go.Proofs.YtdkejfjcchlnpaaGreat
open Go.RowKit Go.Ox Go.Ox.Gr Go.Shelf Mo Ct
theorem NM.a1Q {w w' : World} {p b c d : Nat} {v : Value} {g : G} {L : List Cnt.K} (h : NM w p b d v g L) (he : ExtM c w w') (h1 : p ≠ c) (h2 : b ≠ c) : NM w' p b d v g L := by
 obtain ⟨l, q1, q2⟩ := h.map;exact ⟨h.box.a1Q he h1, h.nod.a1Q he, h.ne, ⟨l, q1.a1Q he h2, q2⟩, h.asc⟩
theorem b4G (w : World) (a b : Int) : RE (w.alloc (.cells #[.int .i64 a, .int .i64 b] 29)) (.slice (some ⟨w.heap.size, 0, none⟩) 1 1) [((a, b) : Mom.M)] :=
 RE.lit w #[.int .i64 a, .int .i64 b] 29 1 [((a, b) : Mom.M)] rfl (by omega) rfl
attribute [local irreducible] RE OE a00
theorem a16 (n : Int) (w : World) : Calls Tryz.prog 37 #[.int .i64 n] w fun e w' => e = .returned (.agg #[.int .i64 2, .int .i64 n]) ∧ Ext w w' := by
 have HX := hid ((Ext.refl w).alloc (.cells #[.int .i64 0, .int .i64 0] 27));have HB := hid (Blk.new w 27 #[.int .i64 0, .int .i64 0])
 go_enter Tryz.func37, Tryz.ntmps37
 go_upto_region 1 with fail
 obtain ⟨p, hp⟩ : ∃ p, p = w.heap.size := ⟨_, rfl⟩;rw [← hp] at HB ⊢;have HPS := hid (Nat.le_of_eq hp.symm);clear hp;generalize w.alloc (.cells #[.int .i64 0, .int .i64 0] 27) = w1 at *;have s0 := HB.o.cell 0;have s1 := HB.o.cell 1;have f0 := HB.o.frozen 0;have f1 := HB.o.frozen 1;have t0 := fun u => (HB.o.a0U 0 u).frozen 1
 have t1 := fun u => (HB.o.a0U 0 u).cell 1
 go_wp2
 obtain ⟨y0, y1, hy⟩ := res2 HB.o HX.o HPS.o (.int .i64 2) (.int .i64 n);generalize ((w1.setCell ⟨p, 0, none⟩ (.int .i64 2)).setCell ⟨p, 1, none⟩ (.int .i64 n)) = wr9 at *;exact bodyPost_ret (v := (.agg #[.int .i64 2, .int .i64 n])) (by simp [results, Tryz.results37, go_sem, y0, y1]) rfl ⟨rfl, hy⟩
theorem a18 (n : Int) (w : World) : Calls Tryz.prog 38 #[.int .i64 n] w fun e w' => e = .returned (.agg #[.int .i64 0, .int .i64 n]) ∧ Ext w w' := by
 have HX := hid ((Ext.refl w).alloc (.cells #[.int .i64 0, .int .i64 0] 29));have HB := hid (Blk.new w 29 #[.int .i64 0, .int .i64 0])
 go_enter Tryz.func38, Tryz.ntmps38
 go_upto_region 1 with fail
 obtain ⟨p, hp⟩ : ∃ p, p = w.heap.size := ⟨_, rfl⟩;rw [← hp] at HB ⊢;have HPS := hid (Nat.le_of_eq hp.symm);clear hp;generalize w.alloc (.cells #[.int .i64 0, .int .i64 0] 29) = w1 at *;have s0 := HB.o.cell 0;have s1 := HB.o.cell 1;have f0 := HB.o.frozen 0;have f1 := HB.o.frozen 1;have t0 := fun u => (HB.o.a0U 0 u).frozen 1
 have t1 := fun u => (HB.o.a0U 0 u).cell 1
 go_wp2
 obtain ⟨y0, y1, hy⟩ := res2 HB.o HX.o HPS.o (.int .i64 0) (.int .i64 n);generalize ((w1.setCell ⟨p, 0, none⟩ (.int .i64 0)).setCell ⟨p, 1, none⟩ (.int .i64 n)) = wr9 at *;exact bodyPost_ret (v := (.agg #[.int .i64 0, .int .i64 n])) (by simp [results, Tryz.results38, go_sem, y0, y1]) rfl ⟨rfl, hy⟩
theorem a7w (w : World) : Calls Tryz.prog 9 #[] w fun e w' => e = .returned (.bool true) ∧ Ext w w' := by
 have hn20 : (gPl Fr.g0).length ≤ 20 := by rw [Fr.live_n]; omega
 have HNW := hid (fun u W (h : a00 2 W u a2j) => b2z 2 u Fr.g0 W h Fr.b4u)
 have HAD := hid (fun W g b (h : CM W g b []) => Ct.b4t W g b [] h ((2, 6), (0, 3)) 1)
 rw [Fr.b2D] at HAD;have HAT := hid (fun u W (h : a00 2 W u a2j) g b (hc : CM W g b Fr.C1) => b38 2 u Fr.g0 g b Fr.C1 (2, 0) W h hn20 hc (by decide))
 rw [Fr.a2k, Fr.b4w] at HAT;simp only [if_true] at HAT;have HA9 := hid (fun u W (h : a00 2 W u a2j) g b (hc : CM W g b Fr.C1) => b38 2 u Fr.g0 g b Fr.C1 (9, 0) W h hn20 hc (by decide))
 rw [Fr.b4v] at HA9;have HK1 := hid (fun W p b v (h : NM W p b 2 v Fr.g0 []) => a5X W p b 2 v Fr.g0 [] (2, 0) (0, 3) h)
 rw [Fr.b1f, Fr.b4x] at HK1;have HK2 := hid (fun W p b v (h : NM W p b 2 v Fr.g0 [Fr.k1]) => a5X W p b 2 v Fr.g0 [Fr.k1] (2, 0) (0, 4) h)
 rw [Fr.b1g, Fr.b4y] at HK2;have HK3 := hid (fun W p b v (h : NM W p b 2 v Fr.g0 [Fr.k1, Fr.k2]) => a5X W p b 2 v Fr.g0 [Fr.k1, Fr.k2] (2, 0) (0, 4) h)
 rw [Fr.b1h, Fr.b4z] at HK3;have HTK := hid (fun W p b v (h : NM W p b 2 v Fr.g0 [Fr.k1, Fr.k2]) gc bc (hc : CM W gc bc Fr.C1) => b2C W p b 2 v Fr.g0 [Fr.k1, Fr.k2] gc bc Fr.C1 h (by decide) hn20 hc (by decide))
 rw [Fr.b4A, Fr.b4B] at HTK;have HWT := hid (fun W p b v (h : NM W p b 2 v Fr.g0 [Fr.k2]) => a4C W p b 2 v Fr.g0 [Fr.k2] h (by decide))
 have HP1 := hid (fun u W (h : a00 2 W u a2j) g b (hc : CM W g b Fr.C1) => a3r 2 u Fr.g0 g b Fr.C1 (2, 0) (0, 3) W h hn20 hc (by decide))
 rw [Fr.b4C] at HP1;have HP2 := hid (fun u W (h : a00 2 W u a2j) g b (hc : CM W g b Fr.C1) => a3r 2 u Fr.g0 g b Fr.C1 (2, 0) (0, 4) W h hn20 hc (by decide))
 rw [Fr.b4D] at HP2;have HP3 := hid (fun u W (h : a00 2 W u a2j) g b (hc : CM W g b Fr.C1) => a3r 2 u Fr.g0 g b Fr.C1 (2, 6) (0, 3) W h hn20 hc (by decide))
 rw [Fr.b4F] at HP3;have HD3 := hid (fun u W (h : a00 2 W u a2j) g b (hc : CM W g b Fr.C1) => b10 2 u Fr.g0 g b Fr.C1 (2, 6) (0, 3) W h hn20 hc (by decide))
 rw [Fr.b4E] at HD3;have heq := fun w => eqAsk Fr.k1 Fr.k1 w
 dsimp only [kV] at heq;rw [decide_eq_true rfl] at heq;clear hn20
 go_enter Tryz.func9, Tryz.ntmps9
 go_wp2_with fail
 refine (b1e w).mono ?_;rintro e w1 ⟨u, rfl, hu, he1⟩;have HX := hid (he1.alloc (gCs u 2));have HU := hid (hu.ext ((Ext.refl _).alloc (gCs u 2)));have HB := hid (Blk.new w1 24 #[u, .int .i64 2]);obtain ⟨A, c, rfl⟩ := hu.form;clear hu he1
 go_upto_region 2 with fail
 obtain ⟨p, hp⟩ : ∃ p, p = w1.heap.size := ⟨_, rfl⟩;rw [← hp] at HB ⊢;clear hp;generalize w1.alloc (gCs (.slice A a2j.length c) 2) = w2 at *
 go_wp2_with fail
 refine (Ct.b4j w2).mono ?_;rintro e w3 ⟨gc, bc, rfl, hg, hb, hc, he⟩;have NPbc := hid (show p ≠ bc by have := HB.o.lt; omega)
 have SBC := hid (show w.heap.size ≤ bc by have := HX.o.size; omega)
 have HX := hid (HX.o.trans he);have HU := hid (HU.o.ext he);have HB := hid (HB.o.ext he);clear he;have HC := hid hc;clear hg hb hc;have c0 := HB.o.c0;have c1 := HB.o.c1
 go_wp2_with fail
 refine (HNW.o _ w3 HU.o).mono ?_;rintro e w4 ⟨pn, bn, V, rfl, hp, hb, hn, he⟩;clear c0 c1;have NPbn := hid (show p ≠ bn by have := HB.o.lt; omega)
 have NGCbn := hid (show gc ≠ bn by have := HC.o.lt; omega)
 have NBCbn := hid (show bc ≠ bn by have := HC.o.lt; omega)
 have NPNbc := hid (show pn ≠ bc by have := HC.o.lt; omega)
 have NBNbc := hid (show bn ≠ bc by have := HC.o.lt; omega)
 have SBN := hid (show w.heap.size ≤ bn by have := HX.o.size; omega)
 have HX := hid (HX.o.trans he);have HU := hid (HU.o.ext he);have HB := hid (HB.o.ext he);have HC := hid (HC.o.ext he);clear he;have HN := hid hn;clear hp hb hn HNW
 go_wp2_with fail
 refine (a16 6 w4).mono ?_;rintro e w5 ⟨rfl, he⟩;have HX := hid (HX.o.trans he);have HU := hid (HU.o.ext he);have HB := hid (HB.o.ext he);have HC := hid (HC.o.ext he);have HN := hid (HN.o.ext he);clear he
 go_wp2_with fail
 refine (a18 3 w5).mono ?_;rintro e w6 ⟨rfl, he⟩;have HX := hid (HX.o.trans he);have HU := hid (HU.o.ext he);have HB := hid (HB.o.ext he);have HC := hid (HC.o.ext he);have HN := hid (HN.o.ext he);clear he
 go_wp2_with fail
 refine (HAD.o w6 gc bc HC.o).mono ?_;rintro e w7 ⟨rfl, hc, he⟩;have HX := hid (HX.o.andM he SBC.o);have HU := hid (HU.o.a1Q he);have HB := hid (HB.o.a1Q he NPbc.o);have HC := hid hc;have HN := hid (HN.o.a1Q he NPNbc.o NBNbc.o);clear he;clear hc HAD
 go_upto_region 7 with fail
 have c0 := HB.o.c0;have c1 := HB.o.c1
 go_cut [6, 7] (fun s6 s7 wx => s7 = .int .i64 0 ∧ RP wx s6 [((0, 4) : Mom.M)] ∧ Ext w7 wx)
 case first => as_aux_lemma =>
  clear HA9 HK1 HK2 HK3 HTK HWT HP1 HP2 HP3 HD3 heq NPbc NPbn NGCbn NBCbn NPNbc NBNbc SBC SBN HN HX HB;have HQ := hid (fun W (h : Ext w7 W) => HAT.o (.slice A a2j.length c) W (HU.o.ext h) gc bc (HC.o.ext h))
  clear HAT HU HC
  go_region_with (first
   | (go_at_call 37; refine (a16 0 _).mono ?_; rintro e wa ⟨rfl, hea⟩; have hqa := Ext.trans (a := w7) (by (repeat (first | exact Ext.refl _ | refine Ext.drew ?_ | refine Ext.alloc ?_ _)); done) hea; have c0a := hqa.cell c0; have c1a := hqa.cell c1)
   | (go_at_call 17; refine (HQ.o _ (by repeat (first | exact hqa | exact Ext.refl _ | refine Ext.drew ?_ | refine Ext.alloc ?_ _))).mono ?_; rintro e wb ⟨ub, rfl, hub, heb⟩))
  all_goals go_wp2
  all_goals go_meet
  all_goals exact ⟨rfl, hub, hqa.trans heb⟩
 case rest =>
 obtain ⟨rfl, hub, he⟩ := hcut;rename World => w8
 clear HAT c0 c1;obtain ⟨AF, cF, rfl⟩ := hub.form;have HX := hid (HX.o.trans he);have HU := hid (HU.o.ext he);have HB := hid (HB.o.ext he);have HC := hid (HC.o.ext he);have HN := hid (HN.o.ext he);clear he;have HF := hid (RP.re hub);clear hub
 go_wp2_with fail
 refine (a16 0 w8).mono ?_;rintro e w9 ⟨rfl, he⟩;have HX := hid (HX.o.trans he);have HU := hid (HU.o.ext he);have HB := hid (HB.o.ext he);have HC := hid (HC.o.ext he);have HN := hid (HN.o.ext he);have HF := hid (HF.o.ext he);clear he
 go_wp2_with fail
 refine (a18 3 w9).mono ?_;rintro e w10 ⟨rfl, he⟩;have HX := hid (HX.o.trans he);have HU := hid (HU.o.ext he);have HB := hid (HB.o.ext he);have HC := hid (HC.o.ext he);have HN := hid (HN.o.ext he);have HF := hid (HF.o.ext he);clear he
 go_wp2_with fail
 refine (HK1.o w10 pn bn V HN.o).mono ?_;rintro e w11 ⟨rfl, hn, w9, he1, he2⟩;have he := (ExtM.of he1).trans he2;clear he1 he2;have HX := hid (HX.o.andM he SBN.o);have HU := hid (HU.o.a1Q he);have HB := hid (HB.o.a1Q he NPbn.o);have HC := hid (HC.o.a1Q he NGCbn.o NBCbn.o);have HN := hid hn;have HF := hid (a4B HF.o he);clear he;clear hn HK1
 go_wp2_with fail
 refine (a16 0 w11).mono ?_;rintro e w12 ⟨rfl, he⟩;have HX := hid (HX.o.trans he);have HU := hid (HU.o.ext he);have HB := hid (HB.o.ext he);have HC := hid (HC.o.ext he);have HN := hid (HN.o.ext he);have HF := hid (HF.o.ext he);clear he
 go_wp2_with fail
 refine (a18 4 w12).mono ?_;rintro e w13 ⟨rfl, he⟩;have HX := hid (HX.o.trans he);have HU := hid (HU.o.ext he);have HB := hid (HB.o.ext he);have HC := hid (HC.o.ext he);have HN := hid (HN.o.ext he);have HF := hid (HF.o.ext he);clear he
 go_wp2_with fail
 refine (HK2.o w13 pn bn V HN.o).mono ?_;rintro e w14 ⟨rfl, hn, w9, he1, he2⟩;have he := (ExtM.of he1).trans he2;clear he1 he2;have HX := hid (HX.o.andM he SBN.o);have HU := hid (HU.o.a1Q he);have HB := hid (HB.o.a1Q he NPbn.o);have HC := hid (HC.o.a1Q he NGCbn.o NBCbn.o);have HN := hid hn;have HF := hid (a4B HF.o he);clear he;clear hn HK2
 go_wp2_with fail
 refine (a16 0 w14).mono ?_;rintro e w15 ⟨rfl, he⟩;have HX := hid (HX.o.trans he);have HU := hid (HU.o.ext he);have HB := hid (HB.o.ext he);have HC := hid (HC.o.ext he);have HN := hid (HN.o.ext he);have HF := hid (HF.o.ext he);clear he
 go_wp2_with fail
 refine (a18 4 w15).mono ?_;rintro e w16 ⟨rfl, he⟩;have HX := hid (HX.o.trans he);have HU := hid (HU.o.ext he);have HB := hid (HB.o.ext he);have HC := hid (HC.o.ext he);have HN := hid (HN.o.ext he);have HF := hid (HF.o.ext he);clear he
 go_wp2_with fail
 refine (HK3.o w16 pn bn V HN.o).mono ?_;rintro e w17 ⟨rfl, hn, w9, he1, he2⟩;have he := (ExtM.of he1).trans he2;clear he1 he2;have HX := hid (HX.o.andM he SBN.o);have HU := hid (HU.o.a1Q he);have HB := hid (HB.o.a1Q he NPbn.o);have HC := hid (HC.o.a1Q he NGCbn.o NBCbn.o);have HN := hid hn;have HF := hid (a4B HF.o he);clear he;clear hn HK3
 go_wp2_with fail
 refine (HTK.o w17 pn bn V HN.o gc bc HC.o).mono ?_;rintro e w18 ⟨ut, rfl, hut, hn, w9, he1, he2⟩;have he := (ExtM.of he1).trans he2;clear he1 he2;obtain ⟨AT, cT, rfl⟩ := hut.form;have HX := hid (HX.o.andM he SBN.o);have HU := hid (HU.o.a1Q he);have HB := hid (HB.o.a1Q he NPbn.o);have HC := hid (HC.o.a1Q he NGCbn.o NBCbn.o);have HN := hid hn;have HF := hid (a4B HF.o he);clear he;have HT := hid hut;clear hut hn HTK;have c0 := HB.o.c0;have c1 := HB.o.c1
 go_wp2_with fail
 refine (HA9.o _ w18 HU.o gc bc HC.o).mono ?_;rintro e w19 ⟨u9, rfl, hu9, he⟩;clear c0 c1;clear hu9 HA9;have HX := hid (HX.o.trans he);have HU := hid (HU.o.ext he);have HB := hid (HB.o.ext he);have HC := hid (HC.o.ext he);have HN := hid (HN.o.ext he);have HF := hid (HF.o.ext he);have HT := hid (HT.o.ext he);clear he;have heq9 := hid heq;clear heq;obtain ⟨bT, oT, hAT, hcT⟩ := HT.o.at_ (i := 0) (by decide)
 subst hAT;have y0 : w19.cell? ⟨bT, oT, none⟩ = some (.int .i64 2) := hcT 0 _ rfl;have y1 : w19.cell? ⟨bT, oT + 1, none⟩ = some (.int .i64 0) := hcT 1 _ rfl;have y2 : w19.cell? ⟨bT, oT + 2, none⟩ = some (.int .i64 0) := hcT 2 _ rfl;have y3 : w19.cell? ⟨bT, oT + 3, none⟩ = some (.int .i64 3) := hcT 3 _ rfl;clear hcT HT NPbc NPbn NGCbn NBCbn NPNbc NBNbc SBC SBN
 have HSM := hid (fun v u W (h1 : RP W v [((0, 4) : Mom.M)]) (h2 : RP W u [((0, 4) : Mom.M)]) => (show Calls Tryz.prog 22 #[v, u] W fun e w' => e = .returned (.bool true) ∧ Ext W w' from by
  have h := Mo.b2f v u [((0, 4) : Mom.M)] [((0, 4) : Mom.M)] W h1 h2;rw [decide_eq_true rfl] at h
  exact h))
 as_aux_lemma =>
  have c0 := HB.o.c0;have c1 := HB.o.c1
  go_wp2
  refine yx ?_;refine ya ?_;refine yc0 (.agg #[.int .i64 0, .int .i64 4]) (fun w' _ => a18 4 w') ?_
  refine a06 (fun v w2 => RE w2 v [((0, 4) : Mom.M)]) rfl rfl (a05 rfl) rfl (by first | exact (fun _ _ _ h k => RE.ext h k) | exact (fun _ _ _ h k => RE.extD h k)) ?_ ?_
  · intro a w' hR h1 K hK
    have e1 : _ = _ := h1;have q1 : a.tmps[72]?.getD undef = .agg #[.int .i64 0, .int .i64 4] := by simpa using e1
    go_simp;exact hK _ _ ((Ext.refl _).alloc _) (b4G _ 0 4)
  refine a06 (fun v _ => v = .bool true) rfl rfl (a05 rfl) rfl (by exact a0e) ?_ ?_
  · intro a w' hR h1 h2 K hK
    have e1 : _ = _ := h1;obtain ⟨x, ex, fx⟩ : ∃ x, a.tmps.getD 73 undef = x ∧ (fun v w2 => RE w2 v [((0, 4) : Mom.M)]) x w' := ⟨_, rfl, h2⟩
    go_simp;refine (HSM.o _ _ w' (RE.rp (RE.ext HF.o hR)) (RE.rp fx)).mono ?_;rintro e w2 ⟨rfl, he⟩;exact hK _ _ he rfl
  refine ya ?_;refine yl4 y0 y1 y2 y3 ?_;refine yc0 (.agg #[.int .i64 2, .int .i64 0]) (fun w' _ => a16 0 w') ?_
  refine yc0 (.agg #[.int .i64 0, .int .i64 3]) (fun w' _ => a18 3 w') ?_
  refine a0Y rfl rfl (a05 rfl) Ext.refl rfl ?_; apply Exists.intro; refine ⟨?_, ?_⟩
  · intro a w' hR h1 h2
    have e1 : _ = _ := h1;have e2 : _ = _ := h2;have q1 := e1; rw [Array.getD_eq_getD_getElem?] at q1;have q2 := e2; rw [Array.getD_eq_getD_getElem?] at q2;go_simp;rfl
  refine a0Y rfl rfl (a05 rfl) Ext.refl rfl ?_; apply Exists.intro; refine ⟨?_, ?_⟩
  · intro a w' hR h1 h2
    have e1 : _ = _ := h1;have e2 : _ = _ := h2;have hq9 := heq9.o w';go_simp;rfl
  refine ya ?_;refine a06 (fun v _ => ∃ A c, v = .slice A 1 c) rfl rfl (a05 rfl) rfl (by first | exact a0e | exact (fun _ _ _ h k => Rd.ext h k) | exact (fun _ _ _ h k => RB.ext h k) | exact (fun _ _ _ h k => OB.ext h k) | exact (fun _ _ _ h k => RB.extS h k) | exact (fun _ _ _ h k => Rd.ext h (a02.ext k)) | exact (fun _ _ _ h k => RP.ext h k) | exact (fun _ _ _ h k => OP.ext h k) | exact (fun _ _ _ h k => Rd.extV h k) | exact (fun _ _ _ h k => RB.extV h k) | exact (fun _ _ _ h k => E0.ext h k) | exact (fun _ _ _ h k => O0.ext h k) | exact (fun _ _ _ h k => RE.ext h k) | exact (fun _ _ _ h k => RE.extD h k) | exact (fun _ _ _ h _ => h) | exact (fun _ _ _ ⟨n, h1, h2⟩ k => ⟨n, h1, k.st _ _ h2⟩) | exact (fun _ _ _ h k => OE.ext h k) | exact (fun _ _ _ ⟨n, h1, h2, h3⟩ k => ⟨n, h1, h2, h3.ext k⟩)) ?_ ?_
  · intro a w' hR h1 K hK
    have e1 : _ = _ := h1;go_simp;refine (HWT.o w' pn bn V (HN.o.ext hR)).mono ?_;rintro e w2 ⟨v9, rfl, ho9, he⟩;exact hK _ _ he (by obtain ⟨A9, c9, h9⟩ := ho9.re.form; exact ⟨A9, c9, h9⟩)
  refine a0Y rfl rfl (a05 rfl) Ext.refl rfl ?_; apply Exists.intro; refine ⟨?_, ?_⟩
  · intro a w' hR h1
    obtain ⟨A9, c9, e1⟩ := h1;have e1 : _ = _ := e1;go_simp;rfl
  refine ya ?_;refine yl2 c0 c1 ?_;refine ya1 ?_;refine yc0 (.agg #[.int .i64 2, .int .i64 0]) (fun w' _ => a16 0 w') ?_
  refine yc0 (.agg #[.int .i64 0, .int .i64 3]) (fun w' _ => a18 3 w') ?_
  refine yc4 (.bool true) (fun w' hR => HP1.o _ w' (HU.o.ext hR) gc bc (HC.o.ext hR)) ?_
  refine ya ?_;refine yl2 c0 c1 ?_;refine ya1 ?_;refine yc0 (.agg #[.int .i64 2, .int .i64 0]) (fun w' _ => a16 0 w') ?_
  refine yc0 (.agg #[.int .i64 0, .int .i64 4]) (fun w' _ => a18 4 w') ?_
  refine yc4 (.bool false) (fun w' hR => HP2.o _ w' (HU.o.ext hR) gc bc (HC.o.ext hR)) ?_
  refine ya ?_;refine yl2 c0 c1 ?_;refine ya1 ?_;refine yc0 (.agg #[.int .i64 2, .int .i64 6]) (fun w' _ => a16 6 w') ?_
  refine yc0 (.agg #[.int .i64 0, .int .i64 3]) (fun w' _ => a18 3 w') ?_
  refine yc4 (.bool true) (fun w' hR => HD3.o _ w' (HU.o.ext hR) gc bc (HC.o.ext hR)) ?_
  refine ya ?_;refine yl2 c0 c1 ?_;refine ya1 ?_;refine yc0 (.agg #[.int .i64 2, .int .i64 6]) (fun w' _ => a16 6 w') ?_
  refine yc0 (.agg #[.int .i64 0, .int .i64 3]) (fun w' _ => a18 3 w') ?_
  refine yc4 (.bool false) (fun w' hR => HP3.o _ w' (HU.o.ext hR) gc bc (HC.o.ext hR)) ?_
  refine yl0 ?_;refine ya1 ?_;refine ya1 ?_;refine ya1 ?_;refine ya1 ?_;refine ya1 ?_;refine yl0 ?_;refine a0f ?_;intro wz hz hS
  iterate 13 (rintro _ rfl)
  iterate 1 (intro _ hz; clear hz)
  iterate 30 (rintro _ rfl)
  iterate 1 (intro _ hz; clear hz)
  iterate 38 (rintro _ rfl)
  dsimp only [a1K];go_simp;have hz : Ext w19 wz := hz
  go_wp2
  go_ret
  exact ⟨rfl, HX.o.trans hz⟩
end Go.Proofs.YtdkejfjcchlnpaaGreat
namespace Go.Proofs.YtdkejfjcchlnpaaGreat
open Go.RowKit Go.Ox Go.Ox.Gr Go.Shelf Mo Ct
attribute [local irreducible] RE OE a00
theorem a4D (q : Pl.P2) (m : Mom.M) (w : World) : Calls Tryz.prog 6 #[plV q, mV m] w fun e w' => e = .returned (.bool true) ∧ Ext w w' := by
 have HAN := hid (fun W => b4q q m W)
 obtain ⟨q1, q2⟩ := q;obtain ⟨m1, m2⟩ := m;have HX := hid (show Ext w ((w.alloc (.cells #[.int .i64 q1, .int .i64 q2] 27)).alloc (.cells #[.int .i64 m1, .int .i64 m2] 29)) from a0s [(#[.int .i64 q1, .int .i64 q2], 27), (#[.int .i64 m1, .int .i64 m2], 29)] w);have HB0 := hid (show Blk ((w.alloc (.cells #[.int .i64 q1, .int .i64 q2] 27)).alloc (.cells #[.int .i64 m1, .int .i64 m2] 29)) (w.heap.size) 27 #[.int .i64 q1, .int .i64 q2] from a08 [(#[.int .i64 q1, .int .i64 q2], 27), (#[.int .i64 m1, .int .i64 m2], 29)] w 0 _ _ rfl);have HB1 := hid (show Blk ((w.alloc (.cells #[.int .i64 q1, .int .i64 q2] 27)).alloc (.cells #[.int .i64 m1, .int .i64 m2] 29)) (w.heap.size + 1) 29 #[.int .i64 m1, .int .i64 m2] from a08 [(#[.int .i64 q1, .int .i64 q2], 27), (#[.int .i64 m1, .int .i64 m2], 29)] w 1 _ _ rfl)
 go_enter Tryz.func6, Tryz.ntmps6
 go_upto_region 1 with fail
 generalize w.heap.size = bn at *;generalize (w.alloc (.cells #[.int .i64 q1, .int .i64 q2] 27)).alloc (.cells #[.int .i64 m1, .int .i64 m2] 29) = w0 at *;have c00 := HB0.o.c0;have c01 := HB0.o.c1;have c10 := HB1.o.c0;have c11 := HB1.o.c1
 go_wp2_with fail
 refine (a7w w0).mono ?_;rintro e w1 ⟨rfl, he⟩;clear c00 c01 c10 c11;have HX := hid (HX.o.trans he);have HB0 := hid (HB0.o.ext he);have HB1 := hid (HB1.o.ext he);clear he;have c00 := HB0.o.c0;have c01 := HB0.o.c1;have c10 := HB1.o.c0;have c11 := HB1.o.c1
 go_wp2_with fail
 refine (HAN.o w1).mono ?_;rintro e w2 ⟨rfl, he⟩;have HX := hid (HX.o.trans he);have HB0 := hid (HB0.o.ext he);have HB1 := hid (HB1.o.ext he);clear he
 go_wp2_with fail
 refine (take_nil _ w2).mono ?_;rintro e w3 ⟨rfl, rfl⟩
 go_wp2_with fail
 refine (a7u w2).mono ?_;rintro e w3 ⟨rfl, rfl⟩
 go_wp2
 go_ret
 exact ⟨rfl, HX.o⟩
theorem a4E (w : World) (v : Value) (q : Pl.P2) (hq : v = plV q) (u : Value) (m : Mom.M) (hm : u = mV m) : Calls Tryz.prog 6 #[v, u] w fun e w' => e = .returned (.bool true) ∧ Ext w w' := by
 subst hq hm;exact a4D q m w
end Go.Proofs.YtdkejfjcchlnpaaGreat
namespace Go.Proofs.YtdkejfjcchlnpaaGreat
open Go.RowKit Go.Ox Go.Ox.Gr Go.ChangeShapes Go.WideShapes
section
variable {H : Type} {enc : TypeId × Value → H} {W : World} {base : Nat} {sp : Nat → Bool} {held : Bool} {v u : Value} {d : DataW H} {p : List MemPlace} {r : Reach} {b0 N : Nat}
theorem b2E (hv : Value.okWide Tryz.prog W r b0 27 v) (h : DataW.Trod enc Tryz.prog W base sp held 27 v d p) :
 ∃ x : Pl, v = plV x := by
 obtain ⟨cs, N, rfl, hr⟩ := a4a (n := 8) (ks := [.int .i64, .int .i64]) (by kernel_rfl) Tryz.underlying27 hv h
 obtain ⟨a, cs, rfl, _, hr⟩ := a7I hr;obtain ⟨b, cs, rfl, _, hr⟩ := a7I hr;obtain rfl := b1w hr;exact ⟨(a, b), rfl⟩
end
end Go.Proofs.YtdkejfjcchlnpaaGreat
namespace Go.Proofs.YtdkejfjcchlnpaaGreat.Mo
open Go.RowKit Go.Ox Go.ChangeShapes Go.WideShapes
section
variable {H : Type} {enc : TypeId × Value → H} {W : World} {base : Nat} {sp : Nat → Bool} {held : Bool} {v : Value} {d : DataW H} {p : List MemPlace} {r : Reach} {b0 : Nat}
theorem momArg (hv : Value.okWide Tryz.prog W r b0 29 v) (h : DataW.Trod enc Tryz.prog W base sp held 29 v d p) :
 ∃ x : Mom.M, v = mV x := by
 obtain ⟨cs, rfl, hr⟩ := a4G (n := 8) (ks := [.int .i64, .int .i64]) (by kernel_rfl) Tryz.underlying29 hv h
 obtain ⟨n, cs, rfl, _, hr⟩ := a6i hr;obtain ⟨m, cs, rfl, _, hr⟩ := a6i hr;obtain rfl := a9s hr;exact ⟨(n, m), rfl⟩
end
end Go.Proofs.YtdkejfjcchlnpaaGreat.Mo
