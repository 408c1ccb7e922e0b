/-
  CntLives, FrLives, PlRef, packed: what the claim needs of them.
-/
import Derived.Test.YtdkejfjcchlnpaaGreatFs38
set_option maxHeartbeats 40000000
open Go.Lib (hid)
set_option linter.unusedSimpArgs false
set_option linter.unusedVariables false
set_option maxRecDepth 100000
namespace Go.Proofs.YtdkejfjcchlnpaaGreat.Ct
open Go.RowKit Go.Ox Go.Shelf Mo
attribute [local irreducible] OP RP
theorem a9l (w : World) (g b : Nat) (L : List Cnt.S) (h : CM w g b L) (k : Cnt.K) (n : Int) :
 Calls Tryz.prog 14 #[.pointer (some ⟨g, 0, none⟩), pV2 k.1, pV2 k.2, .int .i64 n] w fun e w' => e = .returned (.int .i64 (Cnt.add L k n).2) ∧ CM w' g b (Cnt.add L k n).1 ∧ ExtM b w w' := by
 unfold Cnt.add
 cases hk : Mom.ok k.2 with
 | false =>
  rw [if_pos rfl];exact (b6U w g b L h k n hk).mono fun _ _ ⟨h1, h2⟩ => ⟨h1, h.ext h2, ExtM.of h2⟩
 | true =>
 rw [if_neg (by simp)]
 by_cases hr : n < - Cnt.was L k ∨ 1073741824 - Cnt.was L k < n
 · rw [if_pos hr]
   exact (b6V w g b L h k n hk hr).mono fun _ _ ⟨h1, h2⟩ => ⟨h1, h.ext h2, ExtM.of h2⟩
 rw [if_neg hr]
 by_cases hz : Cnt.was L k + n = 0
 · exact (add_zero w g b L h k n hk (by omega) (by omega) hz).mono fun _ _ ⟨h1, h2, w1, h3, h4⟩ => ⟨h1, h2, (ExtM.of h3).trans h4⟩
 exact (add_ok w g b L h k n hk (by omega) (by omega) hz).mono fun _ _ ⟨h1, h2, w1, h3, h4⟩ => ⟨h1, h2, (ExtM.of h3).trans h4⟩
theorem b5c (w : World) (g : Nat) (L : List Cnt.S) (h : XM w g L) (hl : L.length ≤ 100000) (k : Cnt.K) (n : Int) :
 Calls Tryz.prog 32 #[.pointer (some ⟨g, 0, none⟩), pV2 k.1, pV2 k.2, .int .i64 n] w fun e w' => e = .returned (.int .i64 (Cnt.add L k n).2) ∧ XM w' g (Cnt.add L k n).1 ∧ ExtG g w w' := by
 unfold Cnt.add
 cases hk : Mom.ok k.2 with
 | false =>
  rw [if_pos rfl];exact (b5a w g L h k n hk).mono fun _ _ ⟨h1, h2⟩ => ⟨h1, h.ext h2, ExtG.of h2⟩
 | true =>
 rw [if_neg (by simp)]
 by_cases hr : n < - Cnt.was L k ∨ 1073741824 - Cnt.was L k < n
 · rw [if_pos hr]
   exact (b5b w g L h hl k n hk hr).mono fun _ _ ⟨h1, h2⟩ => ⟨h1, h.ext h2, ExtG.of h2⟩
 rw [if_neg hr];exact (b72 w g L h hl k n hk (by omega) (by omega)).mono fun _ _ ⟨h1, h2, h3⟩ => ⟨h1, h2, h3⟩
end Go.Proofs.YtdkejfjcchlnpaaGreat.Ct
namespace Go.Ox.Fr
open Go.Ox.Gr Go.Ox.Pl Go.Proofs.YtdkejfjcchlnpaaGreat Go.Proofs.YtdkejfjcchlnpaaGreat.Mo Go.Proofs.YtdkejfjcchlnpaaGreat.Ct
def g0 : G := (a36, 2)
abbrev k1 : Cnt.K := ((2, 0), (0, 3))
abbrev k2 : Cnt.K := ((2, 0), (0, 4))
abbrev C1 : List Cnt.S := [(((2, 6), (0, 3)), 1)]
theorem b73 : gOk g0 = true := by decide +kernel
theorem live_n : (gPl g0).length = 10 := by decide +kernel
theorem b5d : Cnt.add [] ((2, 6), (0, 3)) 1 = (C1, 0) := by decide +kernel
theorem a38 : may g0 (2, 0) = 0 := by decide +kernel
theorem b74 : may g0 (9, 0) = 1 := by decide +kernel
theorem a9m : comes g0 C1 (2, 0) no = [(0, 4)] := by decide +kernel
theorem b75 : Mom.a3m (comes g0 C1 (2, 0) no) = [(0, 4)] := by rw [a9m]; decide +kernel
theorem b3x : b3o g0 [] (2, 0) (0, 3) = 0 := by unfold b3o; rw [a38]; decide +kernel
theorem b76 : b53 g0 [] (2, 0) (0, 3) = [k1] := by unfold b53; rw [b3x]; decide +kernel
theorem b3y : b3o g0 [k1] (2, 0) (0, 4) = 0 := by unfold b3o; rw [a38]; decide +kernel
theorem b77 : b53 g0 [k1] (2, 0) (0, 4) = [k1, k2] := by unfold b53; rw [b3y]; decide +kernel
theorem b3z : b3o g0 [k1, k2] (2, 0) (0, 4) = 5 := by unfold b3o; rw [a38]; decide +kernel
theorem b78 : b53 g0 [k1, k2] (2, 0) (0, 4) = [k1, k2] := by unfold b53; rw [b3z]; decide +kernel
theorem b3A : due g0 C1 (2, 0) (0, 3) = true := by unfold due; rw [a38]; decide +kernel
theorem b3B : due g0 C1 (2, 0) (0, 4) = false := by unfold due; rw [a38]; decide +kernel
theorem b79 : ([k1, k2].filter fun k => due g0 C1 k.1 k.2) = [k1] := by simp [List.filter_cons, b3A, b3B]
theorem b7a : ([k1, k2].filter fun k => !due g0 C1 k.1 k.2) = [k2] := by simp [List.filter_cons, b3A, b3B]
theorem b7b : a1f g0 C1 (2, 0) (0, 3) = true := by unfold a1f; rw [a38, a9m]; decide +kernel
theorem b7c : a1f g0 C1 (2, 0) (0, 4) = false := by unfold a1f; rw [a38, a9m]; decide +kernel
theorem b7d : due g0 C1 (2, 6) (0, 3) = true := by decide +kernel
theorem b7e : a1f g0 C1 (2, 6) (0, 3) = false := by decide +kernel
end Go.Ox.Fr
namespace Go.Proofs.YtdkejfjcchlnpaaGreat
open Go.RowKit Go.Ox Go.Ox.Gr Go.Shelf Mo Ct
theorem NM.a2a {w w' : World} {p b c d : Nat} {v : Value} {g : G} {L : List Cnt.K} (h : NM w p b d v g L) (he : ExtM c w w') (h1 : p ≠ c) (h2 : b ≠ c) : NM w' p b d v g L := by
 obtain ⟨l, q1, q2⟩ := h.map;exact ⟨h.box.a2a he h1, h.nod.a2a he, h.ne, ⟨l, q1.a2a he h2, q2⟩, h.asc⟩
theorem b7f (w : World) (a b : Int) : RE (w.alloc (.cells #[.int .i64 a, .int .i64 b] 29)) (.slice (some ⟨w.heap.size, 0, none⟩) 1 1) [((a, b) : Mom.M)] :=
 RE.lit w #[.int .i64 a, .int .i64 b] 29 1 [((a, b) : Mom.M)] rfl (by omega) rfl
attribute [local irreducible] RE OE a00
theorem a1o (n : Int) (w : World) : Calls Tryz.prog 37 #[.int .i64 n] w fun e w' => e = .returned (.agg #[.int .i64 2, .int .i64 n]) ∧ Ext w w' := by
 have HX := hid ((Ext.refl w).alloc (.cells #[.int .i64 0, .int .i64 0] 27));have HB := hid (Blk.new w 27 #[.int .i64 0, .int .i64 0])
 go_enter Tryz.func37, Tryz.ntmps37
 go_upto_region 1 with fail
 obtain ⟨p, hp⟩ : ∃ p, p = w.heap.size := ⟨_, rfl⟩;rw [← hp] at HB ⊢;have HPS := hid (Nat.le_of_eq hp.symm);clear hp;generalize w.alloc (.cells #[.int .i64 0, .int .i64 0] 27) = w1 at *;have s0 := HB.o.cell 0;have s1 := HB.o.cell 1;have f0 := HB.o.frozen 0;have f1 := HB.o.frozen 1;have t0 := fun u => (HB.o.a0C 0 u).frozen 1
 have t1 := fun u => (HB.o.a0C 0 u).cell 1
 go_wp2
 obtain ⟨y0, y1, hy⟩ := a5Y HB.o HX.o HPS.o (.int .i64 2) (.int .i64 n);generalize ((w1.setCell ⟨p, 0, none⟩ (.int .i64 2)).setCell ⟨p, 1, none⟩ (.int .i64 n)) = wr9 at *;exact bodyPost_ret (v := (.agg #[.int .i64 2, .int .i64 n])) (by simp [results, Tryz.results37, go_sem, y0, y1]) rfl ⟨rfl, hy⟩
theorem a1p (n : Int) (w : World) : Calls Tryz.prog 38 #[.int .i64 n] w fun e w' => e = .returned (.agg #[.int .i64 0, .int .i64 n]) ∧ Ext w w' := by
 have HX := hid ((Ext.refl w).alloc (.cells #[.int .i64 0, .int .i64 0] 29));have HB := hid (Blk.new w 29 #[.int .i64 0, .int .i64 0])
 go_enter Tryz.func38, Tryz.ntmps38
 go_upto_region 1 with fail
 obtain ⟨p, hp⟩ : ∃ p, p = w.heap.size := ⟨_, rfl⟩;rw [← hp] at HB ⊢;have HPS := hid (Nat.le_of_eq hp.symm);clear hp;generalize w.alloc (.cells #[.int .i64 0, .int .i64 0] 29) = w1 at *;have s0 := HB.o.cell 0;have s1 := HB.o.cell 1;have f0 := HB.o.frozen 0;have f1 := HB.o.frozen 1;have t0 := fun u => (HB.o.a0C 0 u).frozen 1
 have t1 := fun u => (HB.o.a0C 0 u).cell 1
 go_wp2
 obtain ⟨y0, y1, hy⟩ := a5Y HB.o HX.o HPS.o (.int .i64 0) (.int .i64 n);generalize ((w1.setCell ⟨p, 0, none⟩ (.int .i64 0)).setCell ⟨p, 1, none⟩ (.int .i64 n)) = wr9 at *;exact bodyPost_ret (v := (.agg #[.int .i64 0, .int .i64 n])) (by simp [results, Tryz.results38, go_sem, y0, y1]) rfl ⟨rfl, hy⟩
theorem a1T (w : World) : Calls Tryz.prog 9 #[] w fun e w' => e = .returned (.bool true) ∧ Ext w w' := by
 have hn20 : (gPl Fr.g0).length ≤ 20 := by rw [Fr.live_n]; omega
 have HNW := hid (fun u W (h : a00 2 W u a36) => b54 2 u Fr.g0 W h Fr.b73)
 have HAD := hid (fun W g b (h : CM W g b []) => Ct.a9l W g b [] h ((2, 6), (0, 3)) 1)
 rw [Fr.b5d] at HAD;have HAT := hid (fun u W (h : a00 2 W u a36) g b (hc : CM W g b Fr.C1) => b5K 2 u Fr.g0 g b Fr.C1 (2, 0) W h hn20 hc (by decide))
 rw [Fr.a38, Fr.b75] at HAT;simp only [if_true] at HAT;have HA9 := hid (fun u W (h : a00 2 W u a36) g b (hc : CM W g b Fr.C1) => b5K 2 u Fr.g0 g b Fr.C1 (9, 0) W h hn20 hc (by decide))
 rw [Fr.b74] at HA9;have HK1 := hid (fun W p b v (h : NM W p b 2 v Fr.g0 []) => a7i W p b 2 v Fr.g0 [] (2, 0) (0, 3) h)
 rw [Fr.b3x, Fr.b76] at HK1;have HK2 := hid (fun W p b v (h : NM W p b 2 v Fr.g0 [Fr.k1]) => a7i W p b 2 v Fr.g0 [Fr.k1] (2, 0) (0, 4) h)
 rw [Fr.b3y, Fr.b77] at HK2;have HK3 := hid (fun W p b v (h : NM W p b 2 v Fr.g0 [Fr.k1, Fr.k2]) => a7i W p b 2 v Fr.g0 [Fr.k1, Fr.k2] (2, 0) (0, 4) h)
 rw [Fr.b3z, Fr.b78] at HK3;have HTK := hid (fun W p b v (h : NM W p b 2 v Fr.g0 [Fr.k1, Fr.k2]) gc bc (hc : CM W gc bc Fr.C1) => b57 W p b 2 v Fr.g0 [Fr.k1, Fr.k2] gc bc Fr.C1 h (by decide) hn20 hc (by decide))
 rw [Fr.b79, Fr.b7a] at HTK;have HWT := hid (fun W p b v (h : NM W p b 2 v Fr.g0 [Fr.k2]) => a5L W p b 2 v Fr.g0 [Fr.k2] h (by decide))
 have HP1 := hid (fun u W (h : a00 2 W u a36) g b (hc : CM W g b Fr.C1) => a3j 2 u Fr.g0 g b Fr.C1 (2, 0) (0, 3) W h hn20 hc (by decide))
 rw [Fr.b7b] at HP1;have HP2 := hid (fun u W (h : a00 2 W u a36) g b (hc : CM W g b Fr.C1) => a3j 2 u Fr.g0 g b Fr.C1 (2, 0) (0, 4) W h hn20 hc (by decide))
 rw [Fr.b7c] at HP2;have HP3 := hid (fun u W (h : a00 2 W u a36) g b (hc : CM W g b Fr.C1) => a3j 2 u Fr.g0 g b Fr.C1 (2, 6) (0, 3) W h hn20 hc (by decide))
 rw [Fr.b7e] at HP3;have HD3 := hid (fun u W (h : a00 2 W u a36) g b (hc : CM W g b Fr.C1) => a9j 2 u Fr.g0 g b Fr.C1 (2, 6) (0, 3) W h hn20 hc (by decide))
 rw [Fr.b7d] at HD3;have heq := fun w => eqAsk Fr.k1 Fr.k1 w
 dsimp only [kV] at heq;rw [decide_eq_true rfl] at heq;clear hn20
 go_enter Tryz.func9, Tryz.ntmps9
 go_wp2_with fail
 refine (b3v w).mono ?_;rintro e w1 ⟨u, rfl, hu, he1⟩;have HX := hid (he1.alloc (gCs u 2));have HU := hid (hu.ext ((Ext.refl _).alloc (gCs u 2)));have HB := hid (Blk.new w1 24 #[u, .int .i64 2]);obtain ⟨A, c, rfl⟩ := hu.form;clear hu he1
 go_upto_region 2 with fail
 obtain ⟨p, hp⟩ : ∃ p, p = w1.heap.size := ⟨_, rfl⟩;rw [← hp] at HB ⊢;clear hp;generalize w1.alloc (gCs (.slice A a36.length c) 2) = w2 at *
 go_wp2_with fail
 refine (Ct.b35 w2).mono ?_;rintro e w3 ⟨gc, bc, rfl, hg, hb, hc, he⟩;have NPbc := hid (show p ≠ bc by have := HB.o.lt; omega)
 have SBC := hid (show w.heap.size ≤ bc by have := HX.o.size; omega)
 have HX := hid (HX.o.trans he);have HU := hid (HU.o.ext he);have HB := hid (HB.o.ext he);clear he;have HC := hid hc;clear hg hb hc;have c0 := HB.o.c0;have c1 := HB.o.c1
 go_wp2_with fail
 refine (HNW.o _ w3 HU.o).mono ?_;rintro e w4 ⟨pn, bn, V, rfl, hp, hb, hn, he⟩;clear c0 c1;have NPbn := hid (show p ≠ bn by have := HB.o.lt; omega)
 have NGCbn := hid (show gc ≠ bn by have := HC.o.lt; omega)
 have NBCbn := hid (show bc ≠ bn by have := HC.o.lt; omega)
 have NPNbc := hid (show pn ≠ bc by have := HC.o.lt; omega)
 have NBNbc := hid (show bn ≠ bc by have := HC.o.lt; omega)
 have SBN := hid (show w.heap.size ≤ bn by have := HX.o.size; omega)
 have HX := hid (HX.o.trans he);have HU := hid (HU.o.ext he);have HB := hid (HB.o.ext he);have HC := hid (HC.o.ext he);clear he;have HN := hid hn;clear hp hb hn HNW
 go_wp2_with fail
 refine (a1o 6 w4).mono ?_;rintro e w5 ⟨rfl, he⟩;have HX := hid (HX.o.trans he);have HU := hid (HU.o.ext he);have HB := hid (HB.o.ext he);have HC := hid (HC.o.ext he);have HN := hid (HN.o.ext he);clear he
 go_wp2_with fail
 refine (a1p 3 w5).mono ?_;rintro e w6 ⟨rfl, he⟩;have HX := hid (HX.o.trans he);have HU := hid (HU.o.ext he);have HB := hid (HB.o.ext he);have HC := hid (HC.o.ext he);have HN := hid (HN.o.ext he);clear he
 go_wp2_with fail
 refine (HAD.o w6 gc bc HC.o).mono ?_;rintro e w7 ⟨rfl, hc, he⟩;have HX := hid (HX.o.andM he SBC.o);have HU := hid (HU.o.a2a he);have HB := hid (HB.o.a2a he NPbc.o);have HC := hid hc;have HN := hid (HN.o.a2a he NPNbc.o NBNbc.o);clear he;clear hc HAD
 go_upto_region 7 with fail
 have c0 := HB.o.c0;have c1 := HB.o.c1
 go_cut [6, 7] (fun s6 s7 wx => s7 = .int .i64 0 ∧ RP wx s6 [((0, 4) : Mom.M)] ∧ Ext w7 wx)
 case first => as_aux_lemma =>
  clear HA9 HK1 HK2 HK3 HTK HWT HP1 HP2 HP3 HD3 heq NPbc NPbn NGCbn NBCbn NPNbc NBNbc SBC SBN HN HX HB;have HQ := hid (fun W (h : Ext w7 W) => HAT.o (.slice A a36.length c) W (HU.o.ext h) gc bc (HC.o.ext h))
  clear HAT HU HC
  go_region_with (first
   | (go_at_call 37; refine (a1o 0 _).mono ?_; rintro e wa ⟨rfl, hea⟩; have hqa := Ext.trans (a := w7) (by (repeat (first | exact Ext.refl _ | refine Ext.drew ?_ | refine Ext.alloc ?_ _)); done) hea; have c0a := hqa.cell c0; have c1a := hqa.cell c1)
   | (go_at_call 17; refine (HQ.o _ (by repeat (first | exact hqa | exact Ext.refl _ | refine Ext.drew ?_ | refine Ext.alloc ?_ _))).mono ?_; rintro e wb ⟨ub, rfl, hub, heb⟩))
  all_goals go_wp2
  all_goals go_meet
  all_goals exact ⟨rfl, hub, hqa.trans heb⟩
 case rest =>
 obtain ⟨rfl, hub, he⟩ := hcut;rename World => w8
 clear HAT c0 c1;obtain ⟨AF, cF, rfl⟩ := hub.form;have HX := hid (HX.o.trans he);have HU := hid (HU.o.ext he);have HB := hid (HB.o.ext he);have HC := hid (HC.o.ext he);have HN := hid (HN.o.ext he);clear he;have HF := hid (RP.re hub);clear hub
 go_wp2_with fail
 refine (a1o 0 w8).mono ?_;rintro e w9 ⟨rfl, he⟩;have HX := hid (HX.o.trans he);have HU := hid (HU.o.ext he);have HB := hid (HB.o.ext he);have HC := hid (HC.o.ext he);have HN := hid (HN.o.ext he);have HF := hid (HF.o.ext he);clear he
 go_wp2_with fail
 refine (a1p 3 w9).mono ?_;rintro e w10 ⟨rfl, he⟩;have HX := hid (HX.o.trans he);have HU := hid (HU.o.ext he);have HB := hid (HB.o.ext he);have HC := hid (HC.o.ext he);have HN := hid (HN.o.ext he);have HF := hid (HF.o.ext he);clear he
 go_wp2_with fail
 refine (HK1.o w10 pn bn V HN.o).mono ?_;rintro e w11 ⟨rfl, hn, w9, he1, he2⟩;have he := (ExtM.of he1).trans he2;clear he1 he2;have HX := hid (HX.o.andM he SBN.o);have HU := hid (HU.o.a2a he);have HB := hid (HB.o.a2a he NPbn.o);have HC := hid (HC.o.a2a he NGCbn.o NBCbn.o);have HN := hid hn;have HF := hid (a5K HF.o he);clear he;clear hn HK1
 go_wp2_with fail
 refine (a1o 0 w11).mono ?_;rintro e w12 ⟨rfl, he⟩;have HX := hid (HX.o.trans he);have HU := hid (HU.o.ext he);have HB := hid (HB.o.ext he);have HC := hid (HC.o.ext he);have HN := hid (HN.o.ext he);have HF := hid (HF.o.ext he);clear he
 go_wp2_with fail
 refine (a1p 4 w12).mono ?_;rintro e w13 ⟨rfl, he⟩;have HX := hid (HX.o.trans he);have HU := hid (HU.o.ext he);have HB := hid (HB.o.ext he);have HC := hid (HC.o.ext he);have HN := hid (HN.o.ext he);have HF := hid (HF.o.ext he);clear he
 go_wp2_with fail
 refine (HK2.o w13 pn bn V HN.o).mono ?_;rintro e w14 ⟨rfl, hn, w9, he1, he2⟩;have he := (ExtM.of he1).trans he2;clear he1 he2;have HX := hid (HX.o.andM he SBN.o);have HU := hid (HU.o.a2a he);have HB := hid (HB.o.a2a he NPbn.o);have HC := hid (HC.o.a2a he NGCbn.o NBCbn.o);have HN := hid hn;have HF := hid (a5K HF.o he);clear he;clear hn HK2
 go_wp2_with fail
 refine (a1o 0 w14).mono ?_;rintro e w15 ⟨rfl, he⟩;have HX := hid (HX.o.trans he);have HU := hid (HU.o.ext he);have HB := hid (HB.o.ext he);have HC := hid (HC.o.ext he);have HN := hid (HN.o.ext he);have HF := hid (HF.o.ext he);clear he
 go_wp2_with fail
 refine (a1p 4 w15).mono ?_;rintro e w16 ⟨rfl, he⟩;have HX := hid (HX.o.trans he);have HU := hid (HU.o.ext he);have HB := hid (HB.o.ext he);have HC := hid (HC.o.ext he);have HN := hid (HN.o.ext he);have HF := hid (HF.o.ext he);clear he
 go_wp2_with fail
 refine (HK3.o w16 pn bn V HN.o).mono ?_;rintro e w17 ⟨rfl, hn, w9, he1, he2⟩;have he := (ExtM.of he1).trans he2;clear he1 he2;have HX := hid (HX.o.andM he SBN.o);have HU := hid (HU.o.a2a he);have HB := hid (HB.o.a2a he NPbn.o);have HC := hid (HC.o.a2a he NGCbn.o NBCbn.o);have HN := hid hn;have HF := hid (a5K HF.o he);clear he;clear hn HK3
 go_wp2_with fail
 refine (HTK.o w17 pn bn V HN.o gc bc HC.o).mono ?_;rintro e w18 ⟨ut, rfl, hut, hn, w9, he1, he2⟩;have he := (ExtM.of he1).trans he2;clear he1 he2;obtain ⟨AT, cT, rfl⟩ := hut.form;have HX := hid (HX.o.andM he SBN.o);have HU := hid (HU.o.a2a he);have HB := hid (HB.o.a2a he NPbn.o);have HC := hid (HC.o.a2a he NGCbn.o NBCbn.o);have HN := hid hn;have HF := hid (a5K HF.o he);clear he;have HT := hid hut;clear hut hn HTK;have c0 := HB.o.c0;have c1 := HB.o.c1
 go_wp2_with fail
 refine (HA9.o _ w18 HU.o gc bc HC.o).mono ?_;rintro e w19 ⟨u9, rfl, hu9, he⟩;clear c0 c1;clear hu9 HA9;have HX := hid (HX.o.trans he);have HU := hid (HU.o.ext he);have HB := hid (HB.o.ext he);have HC := hid (HC.o.ext he);have HN := hid (HN.o.ext he);have HF := hid (HF.o.ext he);have HT := hid (HT.o.ext he);clear he;have heq9 := hid heq;clear heq;obtain ⟨bT, oT, hAT, hcT⟩ := HT.o.at_ (i := 0) (by decide)
 subst hAT;have y0 : w19.cell? ⟨bT, oT, none⟩ = some (.int .i64 2) := hcT 0 _ rfl;have y1 : w19.cell? ⟨bT, oT + 1, none⟩ = some (.int .i64 0) := hcT 1 _ rfl;have y2 : w19.cell? ⟨bT, oT + 2, none⟩ = some (.int .i64 0) := hcT 2 _ rfl;have y3 : w19.cell? ⟨bT, oT + 3, none⟩ = some (.int .i64 3) := hcT 3 _ rfl;clear hcT HT NPbc NPbn NGCbn NBCbn NPNbc NBNbc SBC SBN
 have HSM := hid (fun v u W (h1 : RP W v [((0, 4) : Mom.M)]) (h2 : RP W u [((0, 4) : Mom.M)]) => (show Calls Tryz.prog 22 #[v, u] W fun e w' => e = .returned (.bool true) ∧ Ext W w' from by
  have h := Mo.b4J v u [((0, 4) : Mom.M)] [((0, 4) : Mom.M)] W h1 h2;rw [decide_eq_true rfl] at h
  exact h))
 as_aux_lemma =>
  have c0 := HB.o.c0;have c1 := HB.o.c1
  go_wp2
  refine yx ?_;refine ya ?_;refine yc0 (.agg #[.int .i64 0, .int .i64 4]) (fun w' _ => a1p 4 w') ?_
  refine a09 (fun v w2 => RE w2 v [((0, 4) : Mom.M)]) rfl rfl (a05 rfl) rfl (by first | exact (fun _ _ _ h k => RE.ext h k) | exact (fun _ _ _ h k => RE.extD h k)) ?_ ?_
  · intro a w' hR h1 K hK
    have e1 : _ = _ := h1;have q1 : a.tmps[72]?.getD undef = .agg #[.int .i64 0, .int .i64 4] := by simpa using e1
    go_simp;exact hK _ _ ((Ext.refl _).alloc _) (b7f _ 0 4)
  refine a09 (fun v _ => v = .bool true) rfl rfl (a05 rfl) rfl (by exact a0j) ?_ ?_
  · intro a w' hR h1 h2 K hK
    have e1 : _ = _ := h1;obtain ⟨x, ex, fx⟩ : ∃ x, a.tmps.getD 73 undef = x ∧ (fun v w2 => RE w2 v [((0, 4) : Mom.M)]) x w' := ⟨_, rfl, h2⟩
    go_simp;refine (HSM.o _ _ w' (RE.rp (RE.ext HF.o hR)) (RE.rp fx)).mono ?_;rintro e w2 ⟨rfl, he⟩;exact hK _ _ he rfl
  refine ya ?_;refine yl4 y0 y1 y2 y3 ?_;refine yc0 (.agg #[.int .i64 2, .int .i64 0]) (fun w' _ => a1o 0 w') ?_
  refine yc0 (.agg #[.int .i64 0, .int .i64 3]) (fun w' _ => a1p 3 w') ?_
  refine a0m rfl rfl (a05 rfl) Ext.refl rfl ?_; apply Exists.intro; refine ⟨?_, ?_⟩
  · intro a w' hR h1 h2
    have e1 : _ = _ := h1;have e2 : _ = _ := h2;have q1 := e1; rw [Array.getD_eq_getD_getElem?] at q1;have q2 := e2; rw [Array.getD_eq_getD_getElem?] at q2;go_simp;rfl
  refine a0m rfl rfl (a05 rfl) Ext.refl rfl ?_; apply Exists.intro; refine ⟨?_, ?_⟩
  · intro a w' hR h1 h2
    have e1 : _ = _ := h1;have e2 : _ = _ := h2;have hq9 := heq9.o w';go_simp;rfl
  refine ya ?_;refine a09 (fun v _ => ∃ A c, v = .slice A 1 c) rfl rfl (a05 rfl) rfl (by first | exact a0j | exact (fun _ _ _ h k => Rd.ext h k) | exact (fun _ _ _ h k => RB.ext h k) | exact (fun _ _ _ h k => OB.ext h k) | exact (fun _ _ _ h k => RB.extS h k) | exact (fun _ _ _ h k => Rd.ext h (a03.ext k)) | exact (fun _ _ _ h k => RP.ext h k) | exact (fun _ _ _ h k => OP.ext h k) | exact (fun _ _ _ h k => Rd.extV h k) | exact (fun _ _ _ h k => RB.extV h k) | exact (fun _ _ _ h k => E0.ext h k) | exact (fun _ _ _ h k => O0.ext h k) | exact (fun _ _ _ h k => RE.ext h k) | exact (fun _ _ _ h k => RE.extD h k) | exact (fun _ _ _ h _ => h) | exact (fun _ _ _ ⟨n, h1, h2⟩ k => ⟨n, h1, k.st _ _ h2⟩) | exact (fun _ _ _ h k => OE.ext h k) | exact (fun _ _ _ ⟨n, h1, h2, h3⟩ k => ⟨n, h1, h2, h3.ext k⟩)) ?_ ?_
  · intro a w' hR h1 K hK
    have e1 : _ = _ := h1;go_simp;refine (HWT.o w' pn bn V (HN.o.ext hR)).mono ?_;rintro e w2 ⟨v9, rfl, ho9, he⟩;exact hK _ _ he (by obtain ⟨A9, c9, h9⟩ := ho9.re.form; exact ⟨A9, c9, h9⟩)
  refine a0m rfl rfl (a05 rfl) Ext.refl rfl ?_; apply Exists.intro; refine ⟨?_, ?_⟩
  · intro a w' hR h1
    obtain ⟨A9, c9, e1⟩ := h1;have e1 : _ = _ := e1;go_simp;rfl
  refine ya ?_;refine yl2 c0 c1 ?_;refine ya1 ?_;refine yc0 (.agg #[.int .i64 2, .int .i64 0]) (fun w' _ => a1o 0 w') ?_
  refine yc0 (.agg #[.int .i64 0, .int .i64 3]) (fun w' _ => a1p 3 w') ?_
  refine yc4 (.bool true) (fun w' hR => HP1.o _ w' (HU.o.ext hR) gc bc (HC.o.ext hR)) ?_
  refine ya ?_;refine yl2 c0 c1 ?_;refine ya1 ?_;refine yc0 (.agg #[.int .i64 2, .int .i64 0]) (fun w' _ => a1o 0 w') ?_
  refine yc0 (.agg #[.int .i64 0, .int .i64 4]) (fun w' _ => a1p 4 w') ?_
  refine yc4 (.bool false) (fun w' hR => HP2.o _ w' (HU.o.ext hR) gc bc (HC.o.ext hR)) ?_
  refine ya ?_;refine yl2 c0 c1 ?_;refine ya1 ?_;refine yc0 (.agg #[.int .i64 2, .int .i64 6]) (fun w' _ => a1o 6 w') ?_
  refine yc0 (.agg #[.int .i64 0, .int .i64 3]) (fun w' _ => a1p 3 w') ?_
  refine yc4 (.bool true) (fun w' hR => HD3.o _ w' (HU.o.ext hR) gc bc (HC.o.ext hR)) ?_
  refine ya ?_;refine yl2 c0 c1 ?_;refine ya1 ?_;refine yc0 (.agg #[.int .i64 2, .int .i64 6]) (fun w' _ => a1o 6 w') ?_
  refine yc0 (.agg #[.int .i64 0, .int .i64 3]) (fun w' _ => a1p 3 w') ?_
  refine yc4 (.bool false) (fun w' hR => HP3.o _ w' (HU.o.ext hR) gc bc (HC.o.ext hR)) ?_
  refine yl0 ?_;refine ya1 ?_;refine ya1 ?_;refine ya1 ?_;refine ya1 ?_;refine ya1 ?_;refine yl0 ?_;refine a02 ?_;intro wz hz hS
  iterate 13 (rintro _ rfl)
  iterate 1 (intro _ hz; clear hz)
  iterate 30 (rintro _ rfl)
  iterate 1 (intro _ hz; clear hz)
  iterate 38 (rintro _ rfl)
  dsimp only [a0B];go_simp;have hz : Ext w19 wz := hz
  go_wp2
  go_ret
  exact ⟨rfl, HX.o.trans hz⟩
end Go.Proofs.YtdkejfjcchlnpaaGreat
namespace Go.Proofs.YtdkejfjcchlnpaaGreat
open Go.RowKit Go.Ox Go.Ox.Gr Mo
attribute [local irreducible] RE OE a00
theorem b7g (v : Value) (l : List Pl) (i j : Int) (w : World) (hv : RE w v l) (hl : l.length ≤ 1000000) :
 Calls Tryz.prog 87 #[v, .agg #[.int .i64 i, .int .i64 j]] w fun e w' => e = .returned (.int .i64 (a2b (i, j) l 0)) ∧ Ext w w' := by
 obtain ⟨A, c, rfl⟩ := hv.form;have HX0 := hid ((Ext.refl w).alloc (.cells #[.int .i64 i, .int .i64 j] 27));have HB0 := hid (Blk.new w 27 #[.int .i64 i, .int .i64 j]);have HV := hid (hv.ext HX0.o);have HL := hid hl;have HPA := hid (fun k hk h1 h2 => @a6n (i, j) l 0 k hk h1 h2)
 have HPN := hid (@a2V (i, j) l 0);generalize a2b (i, j) l 0 = R at *;clear hv hl
 go_enter Tryz.func87, Tryz.ntmps87
 go_upto_region 1 with fail
 generalize w.heap.size = p at *;generalize w.alloc (.cells #[.int .i64 i, .int .i64 j] 27) = w0 at *
 go_wp2
 go_loopw [5] (fun iv wr => ∃ k : Nat, k ≤ l.length ∧ iv = .int .i64 (k : Int) ∧ ((i, j) : Pl) ∉ l.take k ∧ Ext w0 wr) (fun iv _ => l.length - (intOf iv).toNat)
 case atStart => exact ⟨0, Nat.zero_le _, rfl, by simp, Ext.refl _⟩
 case round =>
 obtain ⟨k, hk, rfl, hno, hext⟩ := hrel;have HNO := hid hno;have HE := hid hext;have a2 := (HB0.o.ext hext).c0;have a3 := (HB0.o.ext hext).c1;have hkb : k ≤ 1000000 := by have := HL.o; omega
 clear hno
 by_cases hlt : k < l.length
 · have q1 : (k : Int) < (l.length : Int) := by omega
   have q0 : 0 ≤ (k : Int) := by omega
   have q1n : k < l.length := hlt;have HLT := hid hlt;obtain ⟨bA, oA, rfl, y0, y1⟩ := rp2 (HV.o.ext hext) hlt
   have HTK := hid (show ((i, j) : Pl) ≠ l[k] → ((i, j) : Pl) ∉ l.take (k + 1) from fun hne hm => by
    rw [List.take_succ_eq_append_getElem hlt, List.mem_append] at hm
    rcases hm with hm | hm
    · exact HNO.o hm
    exact hne (List.mem_singleton.1 hm))
   have HHIT := hid (HPA.o k hlt HNO.o);generalize l[k] = x at *;obtain ⟨x1, x2⟩ := x;dsimp only at y0 y1;have heq := b5r;clear hext hk hlt
   by_cases hq : (x1, x2) = (i, j)
   · have hd := pB_t hq
     have HR := hid (show R = (k : Int) by have := HHIT.o hq; rw [Nat.zero_add] at this; exact this)
     clear hq
     go_wp2
     refine yx ?_;refine ya ?_;refine yl2 y0 y1 ?_;refine yl2 a2 a3 ?_;refine a0m rfl rfl (a05 rfl) Ext.refl rfl ?_; apply Exists.intro; refine ⟨?_, ?_⟩
     · intro a w' hR h1 h2
       have e1 : _ = _ := h1;have e2 : _ = _ := h2;have hq9 := heq x1 x2 i j w';rw [hd] at hq9;go_simp;rfl
     refine a02 ?_;intro w5 hx5 hS
     iterate 6 (rintro _ rfl)
     dsimp only [a0B];go_simp;have hx5 : Ext wr w5 := hx5;have HX5 := hid ((HX0.o.trans HE.o).trans hx5);clear hx5 hS y0 y1 a2 a3 heq hd
     go_wp2
     go_ret
     exact ⟨by rw [HR.o]; rfl, HX5.o⟩
   have hd := pB_f hq;have HN2 := hid (HTK.o fun e => hq e.symm)
   clear hq
   go_wp2
   refine yx ?_;refine ya ?_;refine yl2 y0 y1 ?_;refine yl2 a2 a3 ?_;refine a0m rfl rfl (a05 rfl) Ext.refl rfl ?_; apply Exists.intro; refine ⟨?_, ?_⟩
   · intro a w' hR h1 h2
     have e1 : _ = _ := h1;have e2 : _ = _ := h2;have hq9 := heq x1 x2 i j w';rw [hd] at hq9;go_simp;rfl
   refine a02 ?_;intro w5 hx5 hS
   iterate 6 (rintro _ rfl)
   dsimp only [a0B];go_simp;have hx5 : Ext wr w5 := hx5;have HX5 := hid (HE.o.trans hx5);clear hx5 hS y0 y1 a2 a3 heq hd
   go_wp2
   exact ⟨⟨k + 1, HLT.o, by go_num, HN2.o, HX5.o⟩, by have := HLT.o; simp [intOf]; omega⟩
 obtain rfl : k = l.length := by omega
 have q1 : ¬ (l.length : Int) < (l.length : Int) := by omega
 have HR := hid (HPN.o (by have := HNO.o; rw [List.take_length] at this; exact this))
 clear hext hk hlt
 go_wp2
 go_ret
 exact ⟨by rw [HR.o]; rfl, HX0.o.trans HE.o⟩
theorem b7h {q : Pl.P2} {us : List Po} {k : Nat} (h : k < us.length) (e : us[k].1 = q) : us.any (fun u => u.1 == q) = true := List.any_eq_true.2 ⟨us[k], List.getElem_mem h, by simpa using e⟩
theorem b5e (d : Nat) (v : Value) (g : G) (p q : Pl.P2) (w : World) (hv : a00 d w v g.1) (hok : gOk g = true) (hp : p ∈ gPl g) :
 Calls Tryz.prog 116 #[gAg v g.2, plV p, plV q] w fun e w' => e = .returned (.tuple #[wV ((Pl.a5X g p q).getD (false, 0)), .bool (Pl.a5X g p q).isSome]) ∧ Ext w w' := by
 have hpn : (gNd g p).isSome = true := (a4n hok).2 (by unfold gPl at hp; rwa [if_pos hok] at hp)
 have HND := hid (fun W (h : Ext w W) => a89 d v g q W (hv.ext h) hok)
 have HUS := hid (fun W (h : Ext w W) => b0X d v g p W (hv.ext h) (a86 (l := g.1) (out := g.2) hok) hpn)
 have HLO := hid (fun W (h : Ext w W) => b1S d v g.1 g.2 W (hv.ext h) (by have := a8M hok; omega))
 have HUL := hid (b6J g p)
 have HARC := hid (show Pl.a5X g p q = if (gUs g p).any (fun u => u.1 == q) = true then some (decide (p.2 < 0) && decide (0 ≤ q.2), 0)
  else if a04 g.1 < 0 then none
  else if p = Pl.inP g ∧ Pl.a6w g q = 10 then some (true, 0)
  else if p = Pl.a3U g ∧ (Pl.a6w g q = 10 ∨ Pl.a6w g q = 11) then some (false, 1)
  else if p = Pl.a3U g ∧ Pl.a6w g q = 9 then some (true, 0)
  else none from rfl)
 have HOP := hid (show Pl.a6w g q = ((gNd g q).getD default).op from rfl);obtain ⟨l, out⟩ := g;have HLP := hid (show ¬ a04 l < 0 → _ from fun h0 => Pl.b4F (l := l) (out := out) (show a1H (l, out) = true from by unfold a1H; rw [hok]; simp; omega))
 have HLA := hid (show (l, out).1 = l from rfl);simp only at HARC HLO HND HUS hv;generalize Pl.a5X (l, out) p q = AF at *;generalize Pl.a6w (l, out) q = opq at *;generalize Pl.inP (l, out) = IP at *;generalize Pl.a3U (l, out) = LP at *;generalize gUs (l, out) p = US at *;generalize (gNd (l, out) q).getD default = nd at *;generalize (gNd (l, out) q).isSome = sq at *;generalize hla : a04 l = la at *;have HV0 := hid hv;obtain ⟨A, c, rfl⟩ := hv.form;obtain ⟨p1, p2⟩ := p;obtain ⟨q1, q2⟩ := q;obtain ⟨op, ins, kind, fa, a, body⟩ := nd;have hopq : opq = op := HOP.o;subst hopq;have h0 : BW4 ((((w.alloc (gCs (.slice A l.length c) out)).alloc (.cells #[.int .i64 p1, .int .i64 p2] 27)).alloc (.cells #[.int .i64 q1, .int .i64 q2] 27)).alloc (.cells #[.bool false, .int .i64 0] 107)) w.heap.size (.slice A l.length c) out p1 p2 q1 q2 ∧ Ext w ((((w.alloc (gCs (.slice A l.length c) out)).alloc (.cells #[.int .i64 p1, .int .i64 p2] 27)).alloc (.cells #[.int .i64 q1, .int .i64 q2] 27)).alloc (.cells #[.bool false, .int .i64 0] 107)) := BW4.new w (.slice A l.length c) out p1 p2 q1 q2;have HB0 := hid h0.1;have HX0 := hid h0.2;clear h0 hv hp hpn hok
 go_enter Tryz.func116, Tryz.ntmps116
 go_upto_region 1 with fail
 obtain ⟨n, hn⟩ : ∃ n, n = w.heap.size := ⟨_, rfl⟩;rw [← hn] at HB0 ⊢;have HPS := hid (show w.heap.size ≤ n + 1 + 1 + 1 from by omega)
 clear hn;generalize (((w.alloc (gCs (.slice A l.length c) out)).alloc (.cells #[.int .i64 p1, .int .i64 p2] 27)).alloc (.cells #[.int .i64 q1, .int .i64 q2] 27)).alloc (.cells #[.bool false, .int .i64 0] 107) = w0 at *;obtain ⟨c0, c1, c2, c3, c4, c5⟩ := HB0.o.cells
 go_wp2_with fail
 refine (HND.o w0 HX0.o).mono ?_;rintro e w1 ⟨u9, b9, rfl, hu9, hb9, he1⟩;simp only [Nd.op, Nd.kind, Nd.fa, Nd.a, Nd.ins, Nd.body] at hu9 hb9 ⊢;obtain ⟨A9, c9, rfl⟩ := hu9.form;obtain ⟨A8, c8, rfl⟩ := hb9.form;have hx2 := he1.alloc (a0k opq kind fa a (.slice A9 ins.length c9) (.slice A8 body.length c8));have HX2 := hid (HX0.o.trans hx2);have HB2 := hid (HB0.o.ext hx2);have HNB := hid (Blk.new w1 101 #[.int .i64 opq, .slice A9 ins.length c9, .int .i64 kind, .int .i64 fa, .int .i64 a, .slice A8 body.length c8]);clear hu9 hb9 he1 hx2 c0 c1 c2 c3 c4 c5 HX0 HB0
 go_upto_region 2 with fail
 generalize w1.heap.size = q8 at *;generalize w1.alloc (a0k opq kind fa a (.slice A9 ins.length c9) (.slice A8 body.length c8)) = w2 at *;obtain ⟨c0, c1, c2, c3, c4, c5⟩ := HB2.o.cells
 go_wp2_with fail
 refine (HLO.o w2 HX2.o).mono ?_;rintro e w3 ⟨rfl, he3⟩;have HX3 := hid (HX2.o.trans he3);have HB3 := hid (HB2.o.ext he3);have HN3 := hid (HNB.o.ext he3);clear he3 c0 c1 c2 c3 c4 c5 HX2 HB2 HNB;obtain ⟨c0, c1, c2, c3, c4, c5⟩ := HB3.o.cells
 go_wp2_with fail
 refine (HUS.o w3 HX3.o).mono ?_;rintro e w4 ⟨uu, rfl, huu, he4⟩;obtain ⟨AU, cU, rfl⟩ := huu.form;have HU4 := hid huu;have HX4 := hid (HX3.o.trans he4);have HB4 := hid (HB3.o.ext he4);have HN4 := hid (HN3.o.ext he4);clear huu he4 c0 c1 c2 c3 c4 c5 HX3 HB3 HN3;obtain ⟨nr, hnr⟩ : ∃ k, k = n + 1 + 1 + 1 := ⟨_, rfl⟩;rw [← hnr] at HPS ⊢;have HNR := hid hnr;clear hnr
 go_wp2
 go_loopw [12] (fun iv wr => ∃ k : Nat, k ≤ US.length ∧ iv = .int .i64 (k : Int) ∧ (∀ u ∈ US.take k, ¬ u.1 = (q1, q2)) ∧ Ext w4 wr) (fun iv _ => US.length - (intOf iv).toNat)
 case atStart => exact ⟨0, Nat.zero_le _, rfl, by simp, Ext.refl _⟩
 case round =>
 obtain ⟨k, hk, rfl, hno, hext⟩ := hrel;have HNO := hid hno;have HE := hid hext;have HBR := hid (HB4.o.ext hext);have HUR := hid (HU4.o.ext hext);have hkb : k ≤ 1000000 := by have := HUL.o; omega
 clear hno hext
 by_cases hlt : k < US.length
 · have r1 : (k : Int) < (US.length : Int) := by omega
   have r0 : 0 ≤ (k : Int) := by omega
   have HLT := hid hlt;obtain ⟨bU, oU, hAU, hcU⟩ := RE.at_ HUR.o hlt;have HTK := hid (List.take_succ_eq_append_getElem hlt);have HHT := hid (fun e => b7h (q := (q1, q2)) hlt e)
   generalize US[k] = z at *;obtain ⟨⟨z1, z2⟩, z3⟩ := z;have y0 : wr.cell? ⟨bU, oU + k * 3, none⟩ = some (.int .i64 z1) := hcU 0 _ rfl;have y1 : wr.cell? ⟨bU, oU + k * 3 + 1, none⟩ = some (.int .i64 z2) := hcU 1 _ rfl;subst hAU;have a2 : wr.cell? ⟨n + 1 + 1, 0, none⟩ = some (.int .i64 q1) := HBR.o.q.cell 0;have a3 : wr.cell? ⟨n + 1 + 1, 1, none⟩ = some (.int .i64 q2) := HBR.o.q.cell 1;clear hcU hlt hk
   by_cases hq : (z1, z2) = (q1, q2)
   · have hd := decide_eq_true hq
     have HR := hid (show AF = some (decide (p2 < 0) && decide (0 ≤ q2), 0) from by rw [HARC.o, if_pos (HHT.o hq)])
     have heq := a7O z1 z2 q1 q2;rw [hd] at heq;clear hq
     go_wp2
     refine yx ?_;refine ya ?_;refine yl2 y0 y1 ?_;refine yl2 a2 a3 ?_;refine a0m rfl rfl (a05 rfl) Ext.refl rfl ?_; apply Exists.intro; refine ⟨?_, ?_⟩
     · intro a w' hR h1 h2
       have e1 : _ = _ := h1;have e2 : _ = _ := h2;have hq9 := heq w';go_simp;rfl
     refine a02 ?_;intro wz hx5 hS
     iterate 7 (rintro _ rfl)
     dsimp only [a0B];go_simp;have hx5 : Ext wr wz := hx5;have HXE := hid ((HX4.o.trans HE.o).trans hx5);have HBZ := hid (HBR.o.ext hx5);clear hx5 hS y0 y1 a2 a3 heq hd;have c3 : wz.cell? ⟨n + 1, 1, none⟩ = some (.int .i64 p2) := HBZ.o.p.cell 1;have c5 : wz.cell? ⟨n + 1 + 1, 1, none⟩ = some (.int .i64 q2) := HBZ.o.q.cell 1;have HRB := hid (show Blk wz nr 107 #[.bool false, .int .i64 0] from by rw [HNR.o]; exact HBZ.o.r)
     have s0 := HRB.o.cell 0;have s1 := HRB.o.cell 1;have f0 := HRB.o.frozen 0;have f1 := HRB.o.frozen 1;have t0 := fun u => (HRB.o.a0C 0 u).frozen 1
     have t1 := fun u => (HRB.o.a0C 0 u).cell 1
     by_cases hp2 : p2 < 0
     · have e1 := decide_eq_true hp2
       by_cases hq2 : 0 ≤ q2
       · have e2 := decide_eq_true hq2
         have HR2 := hid (show AF = some (true, 0) from by rw [HR.o, e1, e2]; rfl)
         clear e1 e2
         go_wp2
         obtain ⟨y0, y1, hy⟩ := a5Y HRB.o HXE.o HPS.o (.bool true) (.int .i64 0);generalize ((wz.setCell ⟨nr, 0, none⟩ (.bool true)).setCell ⟨nr, 1, none⟩ (.int .i64 0)) = wr9 at *;exact bodyPost_ret (v := .tuple #[.agg #[.bool true, .int .i64 0], .bool true]) (by simp [results, Tryz.results116, go_sem, y0, y1]) rfl ⟨by rw [HR2.o]; rfl, hy⟩
       have e2 := decide_eq_false hq2;have HR2 := hid (show AF = some (false, 0) from by rw [HR.o, e1, e2]; rfl)
       clear e1 e2
       go_wp2
       obtain ⟨y0, y1, hy⟩ := a5Y HRB.o HXE.o HPS.o (.bool false) (.int .i64 0);generalize ((wz.setCell ⟨nr, 0, none⟩ (.bool false)).setCell ⟨nr, 1, none⟩ (.int .i64 0)) = wr9 at *;exact bodyPost_ret (v := .tuple #[.agg #[.bool false, .int .i64 0], .bool true]) (by simp [results, Tryz.results116, go_sem, y0, y1]) rfl ⟨by rw [HR2.o]; rfl, hy⟩
     have e1 := decide_eq_false hp2;have HR2 := hid (show AF = some (false, 0) from by rw [HR.o, e1]; rfl)
     clear e1
     go_wp2
     obtain ⟨y0, y1, hy⟩ := a5Y HRB.o HXE.o HPS.o (.bool false) (.int .i64 0);generalize ((wz.setCell ⟨nr, 0, none⟩ (.bool false)).setCell ⟨nr, 1, none⟩ (.int .i64 0)) = wr9 at *;exact bodyPost_ret (v := .tuple #[.agg #[.bool false, .int .i64 0], .bool true]) (by simp [results, Tryz.results116, go_sem, y0, y1]) rfl ⟨by rw [HR2.o]; rfl, hy⟩
   have hd := decide_eq_false hq
   have HN2 := hid (show ∀ u ∈ US.take (k + 1), ¬ u.1 = (q1, q2) from by
    rw [HTK.o];intro u hu
    rcases List.mem_append.1 hu with e | e
    · exact HNO.o u e
    rw [List.mem_singleton] at e; subst e; exact hq)
   have heq := a7O z1 z2 q1 q2;rw [hd] at heq;clear hq
   go_wp2
   refine yx ?_;refine ya ?_;refine yl2 y0 y1 ?_;refine yl2 a2 a3 ?_;refine a0m rfl rfl (a05 rfl) Ext.refl rfl ?_; apply Exists.intro; refine ⟨?_, ?_⟩
   · intro a w' hR h1 h2
     have e1 : _ = _ := h1;have e2 : _ = _ := h2;have hq9 := heq w';go_simp;rfl
   refine a02 ?_;intro w5 hx5 hS
   iterate 7 (rintro _ rfl)
   dsimp only [a0B];go_simp;have hx5 : Ext wr w5 := hx5;have HX5 := hid (HE.o.trans hx5);clear hx5 hS y0 y1 a2 a3 heq hd
   go_wp2
   exact ⟨⟨k + 1, HLT.o, by go_num, HN2.o, HX5.o⟩, by have := HLT.o; simp [intOf]; omega⟩
 obtain rfl : k = US.length := by omega
 have r1 : ¬ (US.length : Int) < (US.length : Int) := by omega
 have HNA := hid (show ¬ US.any (fun u => u.1 == (q1, q2)) = true from by
  rw [List.any_eq_true];rintro ⟨u, hu, he⟩;have := HNO.o;rw [List.take_length] at this
  exact this u hu (by simpa using he))
 have HAR2 := hid (HARC.o.trans (if_neg HNA.o));clear hk hlt HARC;rename World => wz
 have HXE := hid (HX4.o.trans HE.o);have HRB := hid (show Blk wz nr 107 #[.bool false, .int .i64 0] from by rw [HNR.o]; exact HBR.o.r)
 by_cases hl0 : la < 0
 · have HR2 := hid (show AF = none from by rw [HAR2.o, if_pos hl0])
   have s0 := HRB.o.cell 0;have s1 := HRB.o.cell 1;have f0 := HRB.o.frozen 0;have f1 := HRB.o.frozen 1;have t0 := fun u => (HRB.o.a0C 0 u).frozen 1
   have t1 := fun u => (HRB.o.a0C 0 u).cell 1
   go_wp2
   obtain ⟨y0, y1, hy⟩ := a5Y HRB.o HXE.o HPS.o (.bool false) (.int .i64 0);generalize ((wz.setCell ⟨nr, 0, none⟩ (.bool false)).setCell ⟨nr, 1, none⟩ (.int .i64 0)) = wr9 at *;exact bodyPost_ret (v := .tuple #[.agg #[.bool false, .int .i64 0], .bool false]) (by simp [results, Tryz.results116, go_sem, y0, y1]) rfl ⟨by rw [HR2.o]; rfl, hy⟩
 have HL0 := hid hl0;obtain ⟨ln, hlnl, i0, -, hlq, hN, h9, hb1, hb2, hi, hin, hhd, hlp, hi0, hin2⟩ := HLP.o (by omega)
 have hir : ∃ ir, l[ln].ins = i0 :: ir := by
  rw [hN] at hhd
  cases hins : l[ln].ins with
  | nil => rw [hins] at hi; simp at hi
  | cons x ir => rw [hins] at hhd; exact ⟨ir, by rw [← hhd]; rfl⟩
 obtain ⟨ir, hir⟩ := hir;have HVZ := HV0.o.ext HXE.o;obtain ⟨bA, oA, u7, b7, hAA, e0, e1, e2, e3, e4, e5, hu7, hb7⟩ := HVZ.at_ hlnl;rw [hir] at hu7;obtain ⟨Au, cu, rfl⟩ := hu7.form;obtain ⟨Ab, cb, rfl⟩ := hb7.form;obtain ⟨bU7, oU7, hAu, hcU7⟩ := hu7.at_ (i := 0) (by simp)
 have i0c : wz.cell? ⟨bU7, oU7, none⟩ = some (.int .i64 i0) := by have := hcU7 0 _ rfl; simpa using this
 have hil : ((0 : Int) < ((i0 :: ir).length : Int)) := by simp
 have HAR3 := hid (show AF = if ((p1, p2) : Int × Int) = IP ∧ opq = 10 then some (true, 0) else if ((p1, p2) : Int × Int) = LP ∧ (opq = 10 ∨ opq = 11) then some (false, 1) else if ((p1, p2) : Int × Int) = LP ∧ opq = 9 then some (true, 0) else none from by rw [HAR2.o, if_neg hl0])
 have hq1 : (ln : Int) < (l.length : Int) := by omega
 have HLN := hid hlnl;generalize l[ln].body = body7 at *;obtain ⟨bn, hbn⟩ : ∃ bn, body7.length = bn + 1 := ⟨body7.length - 1, by omega⟩
 have u1 : ((body7.length : Int) - 1) = (bn : Int) := by omega
 have u2 : IntKind.i64.wrap (bn : Int) = (bn : Int) := IntWalk.i64_in _ (by omega)
 have hLP : LP = ((ln : Int), (bn : Int)) := by rw [hlp, show body7.length - 1 = bn from by omega]
 rw [hin, hLP] at HAR3;generalize (i0 :: ir).length = il at *;have hbl9 : (body7.length : Int) ≤ 100 := by omega
 have HIN := hid hin2;subst hlq hAA hAu;clear hl0 HAR2 HLP hN h9 hb1 hb2 hi hin hhd hlp hir hbn hLP e0 e2 e3 e4 hu7 hb7 hcU7 HVZ HND HUS HLO HUL HOP HV0 HU4 HUR HNO HL0;have g0 : wz.cell? ⟨n, 0, none⟩ = some (.slice (some ⟨bA, oA, none⟩) l.length c) := HBR.o.g.cell 0
 go_upto_region 12 with fail
 have HX11 := hid ((Ext.refl wz).alloc (.cells #[.int .i64 (ln : Int), .int .i64 (bn : Int)] 27));have HLL := hid (Blk.new wz 27 #[.int .i64 (ln : Int), .int .i64 (bn : Int)]);have E1 := HX11.o.cell e1;have E2 := HX11.o.cell i0c;have E3 := HX11.o.cell g0;obtain ⟨pl, hpl⟩ : ∃ p, p = wz.heap.size := ⟨_, rfl⟩;rw [← hpl] at HLL ⊢;clear hpl e1 e5 i0c g0;generalize wz.alloc (.cells #[.int .i64 (ln : Int), .int .i64 (bn : Int)] 27) = w11 at *
 go_upto_region 13 with fail
 have HX12 := hid ((Ext.refl w11).alloc (.cells #[.int .i64 i0, .int .i64 (-1)] 27));have HII := hid (Blk.new w11 27 #[.int .i64 i0, .int .i64 (-1)]);obtain ⟨pi, hpi⟩ : ∃ p, p = w11.heap.size := ⟨_, rfl⟩;rw [← hpi] at HII ⊢;clear hpi E1 E2 E3;generalize w11.alloc (.cells #[.int .i64 i0, .int .i64 (-1)] 27) = wq at *;have HXZ := hid (HX11.o.trans HX12.o);have HXW := hid (HXE.o.trans HXZ.o);have HRW := hid (HRB.o.ext HXZ.o);have HBW := hid (HBR.o.ext HXZ.o);have HNW := hid (HN4.o.ext (HE.o.trans HXZ.o));have HLW := hid (HLL.o.ext HX12.o);clear HXE HRB HBR HN4 HLL HX11 HX12 HXZ;have HXE := HXW;have HRB := HRW;clear HB4 HX4 HE HXW HRW;have a0 := HNW.o.c0;have c2 : wq.cell? ⟨n + 1, 0, none⟩ = some (.int .i64 p1) := HBW.o.p.cell 0;have c3 : wq.cell? ⟨n + 1, 1, none⟩ = some (.int .i64 p2) := HBW.o.p.cell 1;have d0 := HLW.o.c0;have d1 := HLW.o.c1;have b0 := HII.o.c0;have b1 := HII.o.c1;have heqI := a7O p1 p2 i0 (-1);have heqL := a7O p1 p2 (ln : Int) (bn : Int);clear hil hq1 u1 u2 hbl9;have s0 := HRB.o.cell 0;have s1 := HRB.o.cell 1;have f0 := HRB.o.frozen 0;have f1 := HRB.o.frozen 1;have t0 := fun u => (HRB.o.a0C 0 u).frozen 1
 have t1 := fun u => (HRB.o.a0C 0 u).cell 1
 by_cases hI : ((p1, p2) : Int × Int) = (i0, -1)
 · have hIL : ¬ ((p1, p2) : Int × Int) = ((ln : Int), (bn : Int)) := by rw [hI]; intro e; injection e with a b; omega
   rw [decide_eq_true hI] at heqI;rw [decide_eq_false hIL] at heqL
   by_cases o10 : opq = 10
   · have HR2 := hid (show AF = some (true, 0) from by rw [HAR3.o, if_pos ⟨hI, o10⟩])
     have t10 : ((opq : Int) == 10) = true := by simpa using o10
     clear o10 hI hIL
     go_wp2
     obtain ⟨y0, y1, hy⟩ := a5Y HRB.o HXE.o HPS.o (.bool true) (.int .i64 0);generalize ((wq.setCell ⟨nr, 0, none⟩ (.bool true)).setCell ⟨nr, 1, none⟩ (.int .i64 0)) = wr9 at *;exact bodyPost_ret (v := .tuple #[.agg #[.bool true, .int .i64 0], .bool true]) (by simp [results, Tryz.results116, go_sem, y0, y1]) rfl ⟨by rw [HR2.o]; rfl, hy⟩
   have HR2 := hid (show AF = none from by rw [HAR3.o, if_neg (fun e => o10 e.2), if_neg (fun e => hIL e.1), if_neg (fun e => hIL e.1)])
   have t10 : ((opq : Int) == 10) = false := by simpa using o10
   clear o10 hI hIL
   go_wp2
   obtain ⟨y0, y1, hy⟩ := a5Y HRB.o HXE.o HPS.o (.bool false) (.int .i64 0);generalize ((wq.setCell ⟨nr, 0, none⟩ (.bool false)).setCell ⟨nr, 1, none⟩ (.int .i64 0)) = wr9 at *;exact bodyPost_ret (v := .tuple #[.agg #[.bool false, .int .i64 0], .bool false]) (by simp [results, Tryz.results116, go_sem, y0, y1]) rfl ⟨by rw [HR2.o]; rfl, hy⟩
 rw [decide_eq_false hI] at heqI
 by_cases hL : ((p1, p2) : Int × Int) = ((ln : Int), (bn : Int))
 · rw [decide_eq_true hL] at heqL
   by_cases o10 : opq = 10
   · have HR2 := hid (show AF = some (false, 1) from by rw [HAR3.o, if_neg (fun e => hI e.1), if_pos ⟨hL, .inl o10⟩])
     have t10 : ((opq : Int) == 10) = true := by simpa using o10
     clear o10 hI hL
     go_wp2
     obtain ⟨y0, y1, hy⟩ := a5Y HRB.o HXE.o HPS.o (.bool false) (.int .i64 1);generalize ((wq.setCell ⟨nr, 0, none⟩ (.bool false)).setCell ⟨nr, 1, none⟩ (.int .i64 1)) = wr9 at *;exact bodyPost_ret (v := .tuple #[.agg #[.bool false, .int .i64 1], .bool true]) (by simp [results, Tryz.results116, go_sem, y0, y1]) rfl ⟨by rw [HR2.o]; rfl, hy⟩
   have t10 : ((opq : Int) == 10) = false := by simpa using o10
   by_cases o11 : opq = 11
   · have HR2 := hid (show AF = some (false, 1) from by rw [HAR3.o, if_neg (fun e => hI e.1), if_pos ⟨hL, .inr o11⟩])
     have t11 : ((opq : Int) == 11) = true := by simpa using o11
     clear o10 o11 hI hL
     go_wp2
     obtain ⟨y0, y1, hy⟩ := a5Y HRB.o HXE.o HPS.o (.bool false) (.int .i64 1);generalize ((wq.setCell ⟨nr, 0, none⟩ (.bool false)).setCell ⟨nr, 1, none⟩ (.int .i64 1)) = wr9 at *;exact bodyPost_ret (v := .tuple #[.agg #[.bool false, .int .i64 1], .bool true]) (by simp [results, Tryz.results116, go_sem, y0, y1]) rfl ⟨by rw [HR2.o]; rfl, hy⟩
   have t11 : ((opq : Int) == 11) = false := by simpa using o11
   have HAR4 := hid (show AF = if ((p1, p2) : Int × Int) = ((ln : Int), (bn : Int)) ∧ opq = 9 then some (true, 0) else none from by rw [HAR3.o, if_neg (fun e => hI e.1), if_neg (fun e => by rcases e.2 with e | e; exact o10 e; exact o11 e)])
   by_cases o9 : opq = 9
   · have HR2 := hid (show AF = some (true, 0) from by rw [HAR4.o, if_pos ⟨hL, o9⟩])
     have t9 : ((opq : Int) == 9) = true := by simpa using o9
     clear o10 o11 o9 hI hL
     go_wp2
     obtain ⟨y0, y1, hy⟩ := a5Y HRB.o HXE.o HPS.o (.bool true) (.int .i64 0);generalize ((wq.setCell ⟨nr, 0, none⟩ (.bool true)).setCell ⟨nr, 1, none⟩ (.int .i64 0)) = wr9 at *;exact bodyPost_ret (v := .tuple #[.agg #[.bool true, .int .i64 0], .bool true]) (by simp [results, Tryz.results116, go_sem, y0, y1]) rfl ⟨by rw [HR2.o]; rfl, hy⟩
   have HR2 := hid (show AF = none from by rw [HAR4.o, if_neg (fun e => o9 e.2)])
   have t9 : ((opq : Int) == 9) = false := by simpa using o9
   clear o10 o11 o9 hI hL
   go_wp2
   obtain ⟨y0, y1, hy⟩ := a5Y HRB.o HXE.o HPS.o (.bool false) (.int .i64 0);generalize ((wq.setCell ⟨nr, 0, none⟩ (.bool false)).setCell ⟨nr, 1, none⟩ (.int .i64 0)) = wr9 at *;exact bodyPost_ret (v := .tuple #[.agg #[.bool false, .int .i64 0], .bool false]) (by simp [results, Tryz.results116, go_sem, y0, y1]) rfl ⟨by rw [HR2.o]; rfl, hy⟩
 rw [decide_eq_false hL] at heqL;have HR2 := hid (show AF = none from by rw [HAR3.o, if_neg (fun e => hI e.1), if_neg (fun e => hL e.1), if_neg (fun e => hL e.1)])
 clear hI hL
 go_wp2
 obtain ⟨y0, y1, hy⟩ := a5Y HRB.o HXE.o HPS.o (.bool false) (.int .i64 0);generalize ((wq.setCell ⟨nr, 0, none⟩ (.bool false)).setCell ⟨nr, 1, none⟩ (.int .i64 0)) = wr9 at *;exact bodyPost_ret (v := .tuple #[.agg #[.bool false, .int .i64 0], .bool false]) (by simp [results, Tryz.results116, go_sem, y0, y1]) rfl ⟨by rw [HR2.o]; rfl, hy⟩
end Go.Proofs.YtdkejfjcchlnpaaGreat
