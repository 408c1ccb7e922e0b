/-
  CntLives, FrLives, CntMore, FrNotesP, MomCov, packed: what the claim needs of them.
-/
import Derived.Test.YtdkejfjcchlnpaaGreatFt38
set_option maxHeartbeats 40000000
open Go.Lib (hid)
set_option linter.unusedSimpArgs false
set_option linter.unusedVariables false
set_option maxRecDepth 100000
namespace Go.Proofs.YtdkejfjcchlnpaaGreat.Ct
open Go.RowKit Go.Ox Go.Shelf Mo
attribute [local irreducible] OP RP
theorem b3s (w : World) (g b : Nat) (L : List Cnt.S) (h : CM w g b L) (k : Cnt.K) (n : Int) :
 Calls Tryz.prog 14 #[.pointer (some ⟨g, 0, none⟩), pV2 k.1, pV2 k.2, .int .i64 n] w fun e w' => e = .returned (.int .i64 (Cnt.add L k n).2) ∧ CM w' g b (Cnt.add L k n).1 ∧ ExtM b w w' := by
 unfold Cnt.add
 cases hk : Mom.ok k.2 with
 | false =>
  rw [if_pos rfl];exact (b6S w g b L h k n hk).mono fun _ _ ⟨h1, h2⟩ => ⟨h1, h.ext h2, ExtM.of h2⟩
 | true =>
 rw [if_neg (by simp)]
 by_cases hr : n < - Cnt.was L k ∨ 1073741824 - Cnt.was L k < n
 . rw [if_pos hr]
   exact (b6T w g b L h k n hk hr).mono fun _ _ ⟨h1, h2⟩ => ⟨h1, h.ext h2, ExtM.of h2⟩
 rw [if_neg hr]
 by_cases hz : Cnt.was L k + n = 0
 . exact (add_zero w g b L h k n hk (by omega) (by omega) hz).mono fun _ _ ⟨h1, h2, w1, h3, h4⟩ => ⟨h1, h2, (ExtM.of h3).trans h4⟩
 exact (add_ok w g b L h k n hk (by omega) (by omega) hz).mono fun _ _ ⟨h1, h2, w1, h3, h4⟩ => ⟨h1, h2, (ExtM.of h3).trans h4⟩
theorem b55 (w : World) (g : Nat) (L : List Cnt.S) (h : XM w g L) (hl : L.length <= 100000) (k : Cnt.K) (n : Int) :
 Calls Tryz.prog 32 #[.pointer (some ⟨g, 0, none⟩), pV2 k.1, pV2 k.2, .int .i64 n] w fun e w' => e = .returned (.int .i64 (Cnt.add L k n).2) ∧ XM w' g (Cnt.add L k n).1 ∧ ExtG g w w' := by
 unfold Cnt.add
 cases hk : Mom.ok k.2 with
 | false =>
  rw [if_pos rfl];exact (b53 w g L h k n hk).mono fun _ _ ⟨h1, h2⟩ => ⟨h1, h.ext h2, ExtG.of h2⟩
 | true =>
 rw [if_neg (by simp)]
 by_cases hr : n < - Cnt.was L k ∨ 1073741824 - Cnt.was L k < n
 . rw [if_pos hr]
   exact (b54 w g L h hl k n hk hr).mono fun _ _ ⟨h1, h2⟩ => ⟨h1, h.ext h2, ExtG.of h2⟩
 rw [if_neg hr];exact (b73 w g L h hl k n hk (by omega) (by omega)).mono fun _ _ ⟨h1, h2, h3⟩ => ⟨h1, h2, h3⟩
end Go.Proofs.YtdkejfjcchlnpaaGreat.Ct
namespace Go.Ox.Fr
open Go.Ox.Gr Go.Ox.Pl Go.Proofs.YtdkejfjcchlnpaaGreat Go.Proofs.YtdkejfjcchlnpaaGreat.Mo Go.Proofs.YtdkejfjcchlnpaaGreat.Ct
def g0 : G := (a2Z, 2)
abbrev k1 : Cnt.K := ((2, 0), (0, 3))
abbrev k2 : Cnt.K := ((2, 0), (0, 4))
abbrev C1 : List Cnt.S := [(((2, 6), (0, 3)), 1)]
theorem b74 : gOk g0 = true := by decide +kernel
theorem live_n : (gPl g0).length = 10 := by decide +kernel
theorem b56 : Cnt.add [] ((2, 6), (0, 3)) 1 = (C1, 0) := by decide +kernel
theorem a30 : may g0 (2, 0) = 0 := by decide +kernel
theorem b75 : may g0 (9, 0) = 1 := by decide +kernel
theorem a9f : comes g0 C1 (2, 0) no = [(0, 4)] := by decide +kernel
theorem b76 : Mom.a3j (comes g0 C1 (2, 0) no) = [(0, 4)] := by rw [a9f]; decide +kernel
theorem b3t : a5K g0 [] (2, 0) (0, 3) = 0 := by unfold a5K; rw [a30]; decide +kernel
theorem b77 : a8l g0 [] (2, 0) (0, 3) = [k1] := by unfold a8l; rw [b3t]; decide +kernel
theorem b3u : a5K g0 [k1] (2, 0) (0, 4) = 0 := by unfold a5K; rw [a30]; decide +kernel
theorem b78 : a8l g0 [k1] (2, 0) (0, 4) = [k1, k2] := by unfold a8l; rw [b3u]; decide +kernel
theorem b3v : a5K g0 [k1, k2] (2, 0) (0, 4) = 5 := by unfold a5K; rw [a30]; decide +kernel
theorem b79 : a8l g0 [k1, k2] (2, 0) (0, 4) = [k1, k2] := by unfold a8l; rw [b3v]; decide +kernel
theorem b3w : due g0 C1 (2, 0) (0, 3) = true := by unfold due; rw [a30]; decide +kernel
theorem b3x : due g0 C1 (2, 0) (0, 4) = false := by unfold due; rw [a30]; decide +kernel
theorem b7a : ([k1, k2].filter fun k => due g0 C1 k.1 k.2) = [k1] := by simp [List.filter_cons, b3w, b3x]
theorem b7b : ([k1, k2].filter fun k => !due g0 C1 k.1 k.2) = [k2] := by simp [List.filter_cons, b3w, b3x]
theorem b7c : a4I g0 C1 (2, 0) (0, 3) = true := by unfold a4I; rw [a30, a9f]; decide +kernel
theorem b7d : a4I g0 C1 (2, 0) (0, 4) = false := by unfold a4I; rw [a30, a9f]; decide +kernel
theorem b7e : due g0 C1 (2, 6) (0, 3) = true := by decide +kernel
theorem b7f : a4I g0 C1 (2, 6) (0, 3) = false := by decide +kernel
end Go.Ox.Fr
namespace Go.Proofs.YtdkejfjcchlnpaaGreat
open Go.RowKit Go.Ox Go.Ox.Gr Go.Shelf Mo Ct
theorem NM.a1c {w w' : World} {p b c d : Nat} {v : Value} {g : G} {L : List Cnt.K} (h : NM w p b d v g L) (he : ExtM c w w') (h1 : p ≠ c) (h2 : b ≠ c) : NM w' p b d v g L := by
 obtain ⟨l, q1, q2⟩ := h.map;exact ⟨h.box.a1c he h1, h.nod.a1c he, h.ne, ⟨l, q1.a1c he h2, q2⟩, h.asc⟩
theorem b7g (w : World) (a b : Int) : RE (w.alloc (.cells #[.int .i64 a, .int .i64 b] 29)) (.slice (some ⟨w.heap.size, 0, none⟩) 1 1) [((a, b) : Mom.M)] :=
 RE.lit w #[.int .i64 a, .int .i64 b] 29 1 [((a, b) : Mom.M)] rfl (by omega) rfl
attribute [local irreducible] RE OE a00
theorem a1r (n : Int) (w : World) : Calls Tryz.prog 37 #[.int .i64 n] w fun e w' => e = .returned (.agg #[.int .i64 2, .int .i64 n]) ∧ Ext w w' := by
 have HX := hid ((Ext.refl w).alloc (.cells #[.int .i64 0, .int .i64 0] 27));have HB := hid (Blk.new w 27 #[.int .i64 0, .int .i64 0])
 go_enter Tryz.func37, Tryz.ntmps37
 go_upto_region 1 with fail
 obtain ⟨p, hp⟩ : ∃ p, p = w.heap.size := ⟨_, rfl⟩;rw [<- hp] at HB ⊢;have HPS := hid (Nat.le_of_eq hp.symm);clear hp;generalize w.alloc (.cells #[.int .i64 0, .int .i64 0] 27) = w1 at *;have s0 := HB.o.cell 0;have s1 := HB.o.cell 1;have f0 := HB.o.frozen 0;have f1 := HB.o.frozen 1;have t0 := fun u => (HB.o.a0q 0 u).frozen 1
 have t1 := fun u => (HB.o.a0q 0 u).cell 1
 go_wp2
 obtain ⟨y0, y1, hy⟩ := a5G HB.o HX.o HPS.o (.int .i64 2) (.int .i64 n);generalize ((w1.setCell ⟨p, 0, none⟩ (.int .i64 2)).setCell ⟨p, 1, none⟩ (.int .i64 n)) = wr9 at *;exact bodyPost_ret (v := (.agg #[.int .i64 2, .int .i64 n])) (by simp [results, Tryz.results37, go_sem, y0, y1]) rfl ⟨rfl, hy⟩
theorem a1s (n : Int) (w : World) : Calls Tryz.prog 38 #[.int .i64 n] w fun e w' => e = .returned (.agg #[.int .i64 0, .int .i64 n]) ∧ Ext w w' := by
 have HX := hid ((Ext.refl w).alloc (.cells #[.int .i64 0, .int .i64 0] 29));have HB := hid (Blk.new w 29 #[.int .i64 0, .int .i64 0])
 go_enter Tryz.func38, Tryz.ntmps38
 go_upto_region 1 with fail
 obtain ⟨p, hp⟩ : ∃ p, p = w.heap.size := ⟨_, rfl⟩;rw [<- hp] at HB ⊢;have HPS := hid (Nat.le_of_eq hp.symm);clear hp;generalize w.alloc (.cells #[.int .i64 0, .int .i64 0] 29) = w1 at *;have s0 := HB.o.cell 0;have s1 := HB.o.cell 1;have f0 := HB.o.frozen 0;have f1 := HB.o.frozen 1;have t0 := fun u => (HB.o.a0q 0 u).frozen 1
 have t1 := fun u => (HB.o.a0q 0 u).cell 1
 go_wp2
 obtain ⟨y0, y1, hy⟩ := a5G HB.o HX.o HPS.o (.int .i64 0) (.int .i64 n);generalize ((w1.setCell ⟨p, 0, none⟩ (.int .i64 0)).setCell ⟨p, 1, none⟩ (.int .i64 n)) = wr9 at *;exact bodyPost_ret (v := (.agg #[.int .i64 0, .int .i64 n])) (by simp [results, Tryz.results38, go_sem, y0, y1]) rfl ⟨rfl, hy⟩
theorem a1o (w : World) : Calls Tryz.prog 9 #[] w fun e w' => e = .returned (.bool true) ∧ Ext w w' := by
 have hn20 : (gPl Fr.g0).length <= 20 := by rw [Fr.live_n]; omega
 have HNW := hid (fun u W (h : a00 2 W u a2Z) => b04 2 u Fr.g0 W h Fr.b74)
 have HAD := hid (fun W g b (h : CM W g b []) => Ct.b3s W g b [] h ((2, 6), (0, 3)) 1)
 rw [Fr.b56] at HAD;have HAT := hid (fun u W (h : a00 2 W u a2Z) g b (hc : CM W g b Fr.C1) => b5J 2 u Fr.g0 g b Fr.C1 (2, 0) W h hn20 hc (by decide))
 rw [Fr.a30, Fr.b76] at HAT;simp only [if_true] at HAT;have HA9 := hid (fun u W (h : a00 2 W u a2Z) g b (hc : CM W g b Fr.C1) => b5J 2 u Fr.g0 g b Fr.C1 (9, 0) W h hn20 hc (by decide))
 rw [Fr.b75] at HA9;have HK1 := hid (fun W p b v (h : NM W p b 2 v Fr.g0 []) => a2E W p b 2 v Fr.g0 [] (2, 0) (0, 3) h)
 rw [Fr.b3t, Fr.b77] at HK1;have HK2 := hid (fun W p b v (h : NM W p b 2 v Fr.g0 [Fr.k1]) => a2E W p b 2 v Fr.g0 [Fr.k1] (2, 0) (0, 4) h)
 rw [Fr.b3u, Fr.b78] at HK2;have HK3 := hid (fun W p b v (h : NM W p b 2 v Fr.g0 [Fr.k1, Fr.k2]) => a2E W p b 2 v Fr.g0 [Fr.k1, Fr.k2] (2, 0) (0, 4) h)
 rw [Fr.b3v, Fr.b79] at HK3;have HTK := hid (fun W p b v (h : NM W p b 2 v Fr.g0 [Fr.k1, Fr.k2]) gc bc (hc : CM W gc bc Fr.C1) => b05 W p b 2 v Fr.g0 [Fr.k1, Fr.k2] gc bc Fr.C1 h (by decide) hn20 hc (by decide))
 rw [Fr.b7a, Fr.b7b] at HTK;have HWT := hid (fun W p b v (h : NM W p b 2 v Fr.g0 [Fr.k2]) => a0L W p b 2 v Fr.g0 [Fr.k2] h (by decide))
 have HP1 := hid (fun u W (h : a00 2 W u a2Z) g b (hc : CM W g b Fr.C1) => a4q 2 u Fr.g0 g b Fr.C1 (2, 0) (0, 3) W h hn20 hc (by decide))
 rw [Fr.b7c] at HP1;have HP2 := hid (fun u W (h : a00 2 W u a2Z) g b (hc : CM W g b Fr.C1) => a4q 2 u Fr.g0 g b Fr.C1 (2, 0) (0, 4) W h hn20 hc (by decide))
 rw [Fr.b7d] at HP2;have HP3 := hid (fun u W (h : a00 2 W u a2Z) g b (hc : CM W g b Fr.C1) => a4q 2 u Fr.g0 g b Fr.C1 (2, 6) (0, 3) W h hn20 hc (by decide))
 rw [Fr.b7f] at HP3;have HD3 := hid (fun u W (h : a00 2 W u a2Z) g b (hc : CM W g b Fr.C1) => b3a 2 u Fr.g0 g b Fr.C1 (2, 6) (0, 3) W h hn20 hc (by decide))
 rw [Fr.b7e] at HD3;have heq := fun w => eqAsk Fr.k1 Fr.k1 w
 dsimp only [kV] at heq;rw [decide_eq_true rfl] at heq;clear hn20
 go_enter Tryz.func9, Tryz.ntmps9
 go_wp2_with fail
 refine (b3q w).mono ?_;rintro e w1 ⟨u, rfl, hu, he1⟩;have HX := hid (he1.alloc (gCs u 2));have HU := hid (hu.ext ((Ext.refl _).alloc (gCs u 2)));have HB := hid (Blk.new w1 24 #[u, .int .i64 2]);obtain ⟨A, c, rfl⟩ := hu.form;clear hu he1
 go_upto_region 2 with fail
 obtain ⟨p, hp⟩ : ∃ p, p = w1.heap.size := ⟨_, rfl⟩;rw [<- hp] at HB ⊢;clear hp;generalize w1.alloc (gCs (.slice A a2Z.length c) 2) = w2 at *
 go_wp2_with fail
 refine (Ct.a9c w2).mono ?_;rintro e w3 ⟨gc, bc, rfl, hg, hb, hc, he⟩;have NPbc := hid (show p ≠ bc by have := HB.o.lt; omega)
 have SBC := hid (show w.heap.size <= bc by have := HX.o.size; omega)
 have HX := hid (HX.o.trans he);have HU := hid (HU.o.ext he);have HB := hid (HB.o.ext he);clear he;have HC := hid hc;clear hg hb hc;have c0 := HB.o.c0;have c1 := HB.o.c1
 go_wp2_with fail
 refine (HNW.o _ w3 HU.o).mono ?_;rintro e w4 ⟨pn, bn, V, rfl, hp, hb, hn, he⟩;clear c0 c1;have NPbn := hid (show p ≠ bn by have := HB.o.lt; omega)
 have NGCbn := hid (show gc ≠ bn by have := HC.o.lt; omega)
 have NBCbn := hid (show bc ≠ bn by have := HC.o.lt; omega)
 have NPNbc := hid (show pn ≠ bc by have := HC.o.lt; omega)
 have NBNbc := hid (show bn ≠ bc by have := HC.o.lt; omega)
 have SBN := hid (show w.heap.size <= bn by have := HX.o.size; omega)
 have HX := hid (HX.o.trans he);have HU := hid (HU.o.ext he);have HB := hid (HB.o.ext he);have HC := hid (HC.o.ext he);clear he;have HN := hid hn;clear hp hb hn HNW
 go_wp2_with fail
 refine (a1r 6 w4).mono ?_;rintro e w5 ⟨rfl, he⟩;have HX := hid (HX.o.trans he);have HU := hid (HU.o.ext he);have HB := hid (HB.o.ext he);have HC := hid (HC.o.ext he);have HN := hid (HN.o.ext he);clear he
 go_wp2_with fail
 refine (a1s 3 w5).mono ?_;rintro e w6 ⟨rfl, he⟩;have HX := hid (HX.o.trans he);have HU := hid (HU.o.ext he);have HB := hid (HB.o.ext he);have HC := hid (HC.o.ext he);have HN := hid (HN.o.ext he);clear he
 go_wp2_with fail
 refine (HAD.o w6 gc bc HC.o).mono ?_;rintro e w7 ⟨rfl, hc, he⟩;have HX := hid (HX.o.andM he SBC.o);have HU := hid (HU.o.a1c he);have HB := hid (HB.o.a1c he NPbc.o);have HC := hid hc;have HN := hid (HN.o.a1c he NPNbc.o NBNbc.o);clear he;clear hc HAD
 go_upto_region 7 with fail
 have c0 := HB.o.c0;have c1 := HB.o.c1
 go_cut [6, 7] (fun s6 s7 wx => s7 = .int .i64 0 ∧ RP wx s6 [((0, 4) : Mom.M)] ∧ Ext w7 wx)
 case first => as_aux_lemma =>
  clear HA9 HK1 HK2 HK3 HTK HWT HP1 HP2 HP3 HD3 heq NPbc NPbn NGCbn NBCbn NPNbc NBNbc SBC SBN HN HX HB;have HQ := hid (fun W (h : Ext w7 W) => HAT.o (.slice A a2Z.length c) W (HU.o.ext h) gc bc (HC.o.ext h))
  clear HAT HU HC
  go_region_with (first
   | (go_at_call 37; refine (a1r 0 _).mono ?_; rintro e wa ⟨rfl, hea⟩; have hqa := Ext.trans (a := w7) (by (repeat (first | exact Ext.refl _ | refine Ext.drew ?_ | refine Ext.alloc ?_ _)); done) hea; have c0a := hqa.cell c0; have c1a := hqa.cell c1)
   | (go_at_call 17; refine (HQ.o _ (by repeat (first | exact hqa | exact Ext.refl _ | refine Ext.drew ?_ | refine Ext.alloc ?_ _))).mono ?_; rintro e wb ⟨ub, rfl, hub, heb⟩))
  all_goals go_wp2
  all_goals go_meet
  all_goals exact ⟨rfl, hub, hqa.trans heb⟩
 case rest =>
 obtain ⟨rfl, hub, he⟩ := hcut;rename World => w8
 clear HAT c0 c1;obtain ⟨AF, cF, rfl⟩ := hub.form;have HX := hid (HX.o.trans he);have HU := hid (HU.o.ext he);have HB := hid (HB.o.ext he);have HC := hid (HC.o.ext he);have HN := hid (HN.o.ext he);clear he;have HF := hid (RP.re hub);clear hub
 go_wp2_with fail
 refine (a1r 0 w8).mono ?_;rintro e w9 ⟨rfl, he⟩;have HX := hid (HX.o.trans he);have HU := hid (HU.o.ext he);have HB := hid (HB.o.ext he);have HC := hid (HC.o.ext he);have HN := hid (HN.o.ext he);have HF := hid (HF.o.ext he);clear he
 go_wp2_with fail
 refine (a1s 3 w9).mono ?_;rintro e w10 ⟨rfl, he⟩;have HX := hid (HX.o.trans he);have HU := hid (HU.o.ext he);have HB := hid (HB.o.ext he);have HC := hid (HC.o.ext he);have HN := hid (HN.o.ext he);have HF := hid (HF.o.ext he);clear he
 go_wp2_with fail
 refine (HK1.o w10 pn bn V HN.o).mono ?_;rintro e w11 ⟨rfl, hn, w9, he1, he2⟩;have he := (ExtM.of he1).trans he2;clear he1 he2;have HX := hid (HX.o.andM he SBN.o);have HU := hid (HU.o.a1c he);have HB := hid (HB.o.a1c he NPbn.o);have HC := hid (HC.o.a1c he NGCbn.o NBCbn.o);have HN := hid hn;have HF := hid (a1F HF.o he);clear he;clear hn HK1
 go_wp2_with fail
 refine (a1r 0 w11).mono ?_;rintro e w12 ⟨rfl, he⟩;have HX := hid (HX.o.trans he);have HU := hid (HU.o.ext he);have HB := hid (HB.o.ext he);have HC := hid (HC.o.ext he);have HN := hid (HN.o.ext he);have HF := hid (HF.o.ext he);clear he
 go_wp2_with fail
 refine (a1s 4 w12).mono ?_;rintro e w13 ⟨rfl, he⟩;have HX := hid (HX.o.trans he);have HU := hid (HU.o.ext he);have HB := hid (HB.o.ext he);have HC := hid (HC.o.ext he);have HN := hid (HN.o.ext he);have HF := hid (HF.o.ext he);clear he
 go_wp2_with fail
 refine (HK2.o w13 pn bn V HN.o).mono ?_;rintro e w14 ⟨rfl, hn, w9, he1, he2⟩;have he := (ExtM.of he1).trans he2;clear he1 he2;have HX := hid (HX.o.andM he SBN.o);have HU := hid (HU.o.a1c he);have HB := hid (HB.o.a1c he NPbn.o);have HC := hid (HC.o.a1c he NGCbn.o NBCbn.o);have HN := hid hn;have HF := hid (a1F HF.o he);clear he;clear hn HK2
 go_wp2_with fail
 refine (a1r 0 w14).mono ?_;rintro e w15 ⟨rfl, he⟩;have HX := hid (HX.o.trans he);have HU := hid (HU.o.ext he);have HB := hid (HB.o.ext he);have HC := hid (HC.o.ext he);have HN := hid (HN.o.ext he);have HF := hid (HF.o.ext he);clear he
 go_wp2_with fail
 refine (a1s 4 w15).mono ?_;rintro e w16 ⟨rfl, he⟩;have HX := hid (HX.o.trans he);have HU := hid (HU.o.ext he);have HB := hid (HB.o.ext he);have HC := hid (HC.o.ext he);have HN := hid (HN.o.ext he);have HF := hid (HF.o.ext he);clear he
 go_wp2_with fail
 refine (HK3.o w16 pn bn V HN.o).mono ?_;rintro e w17 ⟨rfl, hn, w9, he1, he2⟩;have he := (ExtM.of he1).trans he2;clear he1 he2;have HX := hid (HX.o.andM he SBN.o);have HU := hid (HU.o.a1c he);have HB := hid (HB.o.a1c he NPbn.o);have HC := hid (HC.o.a1c he NGCbn.o NBCbn.o);have HN := hid hn;have HF := hid (a1F HF.o he);clear he;clear hn HK3
 go_wp2_with fail
 refine (HTK.o w17 pn bn V HN.o gc bc HC.o).mono ?_;rintro e w18 ⟨ut, rfl, hut, hn, w9, he1, he2⟩;have he := (ExtM.of he1).trans he2;clear he1 he2;obtain ⟨AT, cT, rfl⟩ := hut.form;have HX := hid (HX.o.andM he SBN.o);have HU := hid (HU.o.a1c he);have HB := hid (HB.o.a1c he NPbn.o);have HC := hid (HC.o.a1c he NGCbn.o NBCbn.o);have HN := hid hn;have HF := hid (a1F HF.o he);clear he;have HT := hid hut;clear hut hn HTK;have c0 := HB.o.c0;have c1 := HB.o.c1
 go_wp2_with fail
 refine (HA9.o _ w18 HU.o gc bc HC.o).mono ?_;rintro e w19 ⟨u9, rfl, hu9, he⟩;clear c0 c1;clear hu9 HA9;have HX := hid (HX.o.trans he);have HU := hid (HU.o.ext he);have HB := hid (HB.o.ext he);have HC := hid (HC.o.ext he);have HN := hid (HN.o.ext he);have HF := hid (HF.o.ext he);have HT := hid (HT.o.ext he);clear he;have heq9 := hid heq;clear heq;obtain ⟨bT, oT, hAT, hcT⟩ := HT.o.at_ (i := 0) (by decide)
 subst hAT;have y0 : w19.cell? ⟨bT, oT, none⟩ = some (.int .i64 2) := hcT 0 _ rfl;have y1 : w19.cell? ⟨bT, oT + 1, none⟩ = some (.int .i64 0) := hcT 1 _ rfl;have y2 : w19.cell? ⟨bT, oT + 2, none⟩ = some (.int .i64 0) := hcT 2 _ rfl;have y3 : w19.cell? ⟨bT, oT + 3, none⟩ = some (.int .i64 3) := hcT 3 _ rfl;clear hcT HT NPbc NPbn NGCbn NBCbn NPNbc NBNbc SBC SBN
 have HSM := hid (fun v u W (h1 : RP W v [((0, 4) : Mom.M)]) (h2 : RP W u [((0, 4) : Mom.M)]) => (show Calls Tryz.prog 22 #[v, u] W fun e w' => e = .returned (.bool true) ∧ Ext W w' from by
  have h := Mo.b4C v u [((0, 4) : Mom.M)] [((0, 4) : Mom.M)] W h1 h2;rw [decide_eq_true rfl] at h
  exact h))
 as_aux_lemma =>
  have c0 := HB.o.c0;have c1 := HB.o.c1
  go_wp2
  refine yx ?_;refine ya ?_;refine yc0 (.agg #[.int .i64 0, .int .i64 4]) (fun w' _ => a1s 4 w') ?_
  refine a09 (fun v w2 => RE w2 v [((0, 4) : Mom.M)]) rfl rfl (a03 rfl) rfl (by first | exact (fun _ _ _ h k => RE.ext h k) | exact (fun _ _ _ h k => RE.extD h k)) ?_ ?_
  . intro a w' hR h1 K hK
    have e1 : _ = _ := h1;have q1 : a.tmps[72]?.getD undef = .agg #[.int .i64 0, .int .i64 4] := by simpa using e1
    go_simp;exact hK _ _ ((Ext.refl _).alloc _) (b7g _ 0 4)
  refine a09 (fun v _ => v = .bool true) rfl rfl (a03 rfl) rfl (by exact a0g) ?_ ?_
  . intro a w' hR h1 h2 K hK
    have e1 : _ = _ := h1;obtain ⟨x, ex, fx⟩ : ∃ x, a.tmps.getD 73 undef = x ∧ (fun v w2 => RE w2 v [((0, 4) : Mom.M)]) x w' := ⟨_, rfl, h2⟩
    go_simp;refine (HSM.o _ _ w' (RE.rp (RE.ext HF.o hR)) (RE.rp fx)).mono ?_;rintro e w2 ⟨rfl, he⟩;exact hK _ _ he rfl
  refine ya ?_;refine yl4 y0 y1 y2 y3 ?_;refine yc0 (.agg #[.int .i64 2, .int .i64 0]) (fun w' _ => a1r 0 w') ?_
  refine yc0 (.agg #[.int .i64 0, .int .i64 3]) (fun w' _ => a1s 3 w') ?_
  refine a0j rfl rfl (a03 rfl) Ext.refl rfl ?_; apply Exists.intro; refine ⟨?_, ?_⟩
  . intro a w' hR h1 h2
    have e1 : _ = _ := h1;have e2 : _ = _ := h2;have q1 := e1; rw [Array.getD_eq_getD_getElem?] at q1;have q2 := e2; rw [Array.getD_eq_getD_getElem?] at q2;go_simp;rfl
  refine a0j rfl rfl (a03 rfl) Ext.refl rfl ?_; apply Exists.intro; refine ⟨?_, ?_⟩
  . intro a w' hR h1 h2
    have e1 : _ = _ := h1;have e2 : _ = _ := h2;have hq9 := heq9.o w';go_simp;rfl
  refine ya ?_;refine a09 (fun v _ => ∃ A c, v = .slice A 1 c) rfl rfl (a03 rfl) rfl (by first | exact a0g | exact (fun _ _ _ h k => Rd.ext h k) | exact (fun _ _ _ h k => RB.ext h k) | exact (fun _ _ _ h k => OB.ext h k) | exact (fun _ _ _ h k => RB.extS h k) | exact (fun _ _ _ h k => Rd.ext h (a04.ext k)) | exact (fun _ _ _ h k => RP.ext h k) | exact (fun _ _ _ h k => OP.ext h k) | exact (fun _ _ _ h k => Rd.extV h k) | exact (fun _ _ _ h k => RB.extV h k) | exact (fun _ _ _ h k => E0.ext h k) | exact (fun _ _ _ h k => O0.ext h k) | exact (fun _ _ _ h k => RE.ext h k) | exact (fun _ _ _ h k => RE.extD h k) | exact (fun _ _ _ h _ => h) | exact (fun _ _ _ ⟨n, h1, h2⟩ k => ⟨n, h1, k.st _ _ h2⟩) | exact (fun _ _ _ h k => OE.ext h k) | exact (fun _ _ _ ⟨n, h1, h2, h3⟩ k => ⟨n, h1, h2, h3.ext k⟩)) ?_ ?_
  . intro a w' hR h1 K hK
    have e1 : _ = _ := h1;go_simp;refine (HWT.o w' pn bn V (HN.o.ext hR)).mono ?_;rintro e w2 ⟨v9, rfl, ho9, he⟩;exact hK _ _ he (by obtain ⟨A9, c9, h9⟩ := ho9.re.form; exact ⟨A9, c9, h9⟩)
  refine a0j rfl rfl (a03 rfl) Ext.refl rfl ?_; apply Exists.intro; refine ⟨?_, ?_⟩
  . intro a w' hR h1
    obtain ⟨A9, c9, e1⟩ := h1;have e1 : _ = _ := e1;go_simp;rfl
  refine ya ?_;refine yl2 c0 c1 ?_;refine ya1 ?_;refine yc0 (.agg #[.int .i64 2, .int .i64 0]) (fun w' _ => a1r 0 w') ?_
  refine yc0 (.agg #[.int .i64 0, .int .i64 3]) (fun w' _ => a1s 3 w') ?_
  refine yc4 (.bool true) (fun w' hR => HP1.o _ w' (HU.o.ext hR) gc bc (HC.o.ext hR)) ?_
  refine ya ?_;refine yl2 c0 c1 ?_;refine ya1 ?_;refine yc0 (.agg #[.int .i64 2, .int .i64 0]) (fun w' _ => a1r 0 w') ?_
  refine yc0 (.agg #[.int .i64 0, .int .i64 4]) (fun w' _ => a1s 4 w') ?_
  refine yc4 (.bool false) (fun w' hR => HP2.o _ w' (HU.o.ext hR) gc bc (HC.o.ext hR)) ?_
  refine ya ?_;refine yl2 c0 c1 ?_;refine ya1 ?_;refine yc0 (.agg #[.int .i64 2, .int .i64 6]) (fun w' _ => a1r 6 w') ?_
  refine yc0 (.agg #[.int .i64 0, .int .i64 3]) (fun w' _ => a1s 3 w') ?_
  refine yc4 (.bool true) (fun w' hR => HD3.o _ w' (HU.o.ext hR) gc bc (HC.o.ext hR)) ?_
  refine ya ?_;refine yl2 c0 c1 ?_;refine ya1 ?_;refine yc0 (.agg #[.int .i64 2, .int .i64 6]) (fun w' _ => a1r 6 w') ?_
  refine yc0 (.agg #[.int .i64 0, .int .i64 3]) (fun w' _ => a1s 3 w') ?_
  refine yc4 (.bool false) (fun w' hR => HP3.o _ w' (HU.o.ext hR) gc bc (HC.o.ext hR)) ?_
  refine yl0 ?_;refine ya1 ?_;refine ya1 ?_;refine ya1 ?_;refine ya1 ?_;refine ya1 ?_;refine yl0 ?_;refine a01 ?_;intro wz hz hS
  iterate 13 (rintro _ rfl)
  iterate 1 (intro _ hz; clear hz)
  iterate 30 (rintro _ rfl)
  iterate 1 (intro _ hz; clear hz)
  iterate 38 (rintro _ rfl)
  dsimp only [a0y];go_simp;have hz : Ext w19 wz := hz
  go_wp2
  go_ret
  exact ⟨rfl, HX.o.trans hz⟩
end Go.Proofs.YtdkejfjcchlnpaaGreat
namespace Go.Proofs.YtdkejfjcchlnpaaGreat.Ct
open Go.RowKit Go.Ox Go.Shelf Mo
theorem CM.a5P {w w' : World} {g b g' : Nat} {L : List Cnt.S} (h : CM w g b L) (he : ExtG g' w w') (h1 : g ≠ g') (h2 : b ≠ g') : CM w' g b L := by
 obtain ⟨l, h3, h4⟩ := h.map;exact ⟨h.box.a5P he h1, h.ne, ⟨l, h3.at_ (he.grown.block b h3.lt (fun e => h2 (by injection e))), h4⟩, h.good⟩
structure ExtD (b g : Nat) (w w' : World) : Prop where
 os : w'.os = w.os
 tape : w'.tape = w.tape
 output : w'.output = w.output
 size : w.heap.size <= w'.heap.size
 block : ∀ k, k < w.heap.size -> k ≠ b -> k ≠ g -> w'.heap[k]? = w.heap[k]?
 ints : ∀ a k z, w.cell? a = some (.int k z) -> w'.cell? a = some (.int k z)
section
variable {b g : Nat} {w w' a c d : World}
theorem ExtD.refl (b g : Nat) (w : World) : ExtD b g w w := ⟨rfl, rfl, rfl, Nat.le_refl _, fun _ _ _ _ => rfl, fun _ _ _ h => h⟩
theorem ExtD.trans (h : ExtD b g a c) (k : ExtD b g c d) : ExtD b g a d :=
 ⟨k.os.trans h.os, k.tape.trans h.tape, k.output.trans h.output, Nat.le_trans h.size k.size, fun x hx h1 h2 => (k.block x (Nat.lt_of_lt_of_le hx h.size) h1 h2).trans (h.block x hx h1 h2), fun x y z hx => k.ints x y z (h.ints x y z hx)⟩
theorem ExtD.of (h : Ext a c) : ExtD b g a c := ⟨h.os, h.tape, h.output, h.size, fun _ hk _ _ => h.block hk, fun _ _ _ hv => h.cell hv⟩
theorem ExtD.ofM (h : ExtM b a c) : ExtD b g a c := ⟨h.os, h.tape, h.output, h.size, fun k hk h1 _ => h.block k hk h1, fun x _ _ hv => h.cells x _ hv⟩
theorem ExtD.ofG (h : ExtG g a c) : ExtD b g a c := ⟨h.grown.os, h.grown.tape, h.grown.output, h.size, fun k hk _ h2 => h.grown.block k hk (fun e => h2 (by injection e)), h.ints⟩
theorem b57 {w0 : World} (h : Ext w0 a) (k : ExtD b g a c) (hb : w0.heap.size <= b) (hg : w0.heap.size <= g) : Ext w0 c :=
 Below.trans h ⟨k.os, k.tape, k.output, k.size, fun x hx => k.block x (Nat.lt_of_lt_of_le hx h.size) (by omega) (by omega)⟩
theorem ExtM.andD {m : Nat} {w0 : World} (h : ExtM m w0 a) (k : ExtD b g a c) (hb : w0.heap.size <= b) (hg : w0.heap.size <= g) : ExtM m w0 c where
 os := k.os.trans h.os
 tape := k.tape.trans h.tape
 output := k.output.trans h.output
 size := Nat.le_trans h.size k.size
 block x hx h1 := (k.block x (Nat.lt_of_lt_of_le hx h.size) (by omega) (by omega)).trans (h.block x hx h1)
 cells x u hv := (World.cell?_of_block (a := x) (k.block x.block (Nat.lt_of_lt_of_le (World.block_lt_of_cell? w0 x hv) h.size) (by have := World.block_lt_of_cell? w0 x hv; omega) (by have := World.block_lt_of_cell? w0 x hv; omega))).trans (h.cells x u hv)
theorem b7h {α : Type} [Enc α] {v : Value} {l : List α} (hi : ∀ x : α, ∀ u ∈ Enc.enc x, ∃ z, u = .int .i64 z) (h : RE w v l) (he : ExtD b g w w') : RE w' v l := by
 obtain ⟨A, c, rfl, h⟩ := h;refine ⟨A, c, rfl, h.len, h.nc, h.cm, h.nil, fun ad ha j u hu => ⟨(h.at_ ad ha j u hu).1, ?_⟩⟩
 have hm := List.mem_of_getElem? hu;obtain ⟨x, _, hx⟩ := List.mem_flatMap.1 hm;obtain ⟨z, rfl⟩ := hi x u hx;exact he.ints _ _ _ (h.at_ ad ha j _ hu).2
end
end Go.Proofs.YtdkejfjcchlnpaaGreat.Ct
namespace Go.Ox.Fr
open Go.Ox.Gr Go.Ox.Pl Go.Proofs.YtdkejfjcchlnpaaGreat Go.Proofs.YtdkejfjcchlnpaaGreat.Mo Go.Proofs.YtdkejfjcchlnpaaGreat.Ct
theorem may_pl {g : G} {q : P2} (hok : gOk g = true) (h : (gNd g q).isSome = false) : may g q = 1 := by
 unfold may;rw [if_pos hok, if_neg (by rw [h]; simp)]
theorem b7i {g : G} {q : P2} (hok : gOk g = true) (h : (gNd g q).isSome = true) : may g q = 0 := by
 unfold may;rw [if_pos hok, if_pos h]
theorem ask_pl {g : G} {L : List Cnt.K} {q : P2} {m : Mom.M} (hok : gOk g = true) (h : (gNd g q).isSome = false) : a5K g L q m = 1 ∧ a8l g L q m = L := by
 have e : a5K g L q m = 1 := by
  unfold a5K;rw [may_pl hok h, if_pos (by omega)]
 refine ⟨e, ?_⟩;unfold a8l;rw [e, if_neg (by omega)]
theorem ask_mo {g : G} {L : List Cnt.K} {q : P2} {m : Mom.M} (hok : gOk g = true) (h : (gNd g q).isSome = true) (hm : Mom.ok m = false) : a5K g L q m = 40 ∧ a8l g L q m = L := by
 have e : a5K g L q m = 40 := by
  unfold a5K;rw [b7i hok h, if_neg (by omega), if_neg (by rw [hm]; simp)]
 refine ⟨e, ?_⟩;unfold a8l;rw [e, if_neg (by omega)]
theorem ask_in {g : G} {L : List Cnt.K} {q : P2} {m : Mom.M} (hok : gOk g = true) (h : (gNd g q).isSome = true) (hm : Mom.ok m = true) (hk : (q, m) ∈ L) : a5K g L q m = 5 ∧ a8l g L q m = L := by
 have e : a5K g L q m = 5 := by
  unfold a5K;rw [b7i hok h, if_neg (by omega), if_pos hm, if_pos hk]
 refine ⟨e, ?_⟩;unfold a8l;rw [e, if_neg (by omega)]
theorem ask_no {g : G} {L : List Cnt.K} {q : P2} {m : Mom.M} (hok : gOk g = true) (h : (gNd g q).isSome = true) (hm : Mom.ok m = true) (hk : (q, m) ∉ L) : a5K g L q m = 0 ∧ a8l g L q m = a6z L (q, m) := by
 have e : a5K g L q m = 0 := by
  unfold a5K;rw [b7i hok h, if_neg (by omega), if_pos hm, if_neg hk]
 refine ⟨e, ?_⟩;unfold a8l;rw [e, if_pos rfl]
end Go.Ox.Fr
namespace Go.Proofs.YtdkejfjcchlnpaaGreat
open Go.RowKit Go.Ox Go.Ox.Gr Go.Shelf Mo Ct
theorem NM.moved {w w' w3 : World} {p b d : Nat} {v : Value} {g : G} {L : List Cnt.K} (h : NM w p b d v g L) (h3 : a00 d w3 v g.1) (hr : ExtM b w3 w') (e1 : w'.heap[p]? = w.heap[p]?) (e2 : w'.heap[b]? = w.heap[b]?) : NM w' p b d v g L := by
 obtain ⟨l, q1, q2⟩ := h.map;exact ⟨e1.trans h.box, h3.a1c hr, h.ne, ⟨l, q1.at_ e2, q2⟩, h.asc⟩
theorem intsK (x : Cnt.K) : ∀ u ∈ encK.enc x, ∃ z, u = .int .i64 z := by
 intro u hu;simp only [Enc.enc, List.mem_cons, List.not_mem_nil, or_false] at hu
 rcases hu with rfl | rfl | rfl | rfl <;> exact ⟨_, rfl⟩
theorem a8q {w w' : World} {base E size n m : Nat} {v v' o : Value} {xs news : List Value} {l : List Cnt.K} (ha : Appended w w' base E size v v' n m xs news) (ho : OE E base w o l) (hap : ∀ k, v.ownBlock = some k -> o.ownBlock ≠ some k) :
 OE E base w' o l ∧ ∀ k, v'.ownBlock = some k -> o.ownBlock ≠ some k := by
 refine ⟨OE.grown ho ha.grown fun k hk q => hap k q hk, fun k hk q => ?_⟩
 rcases ha.at_ with e | e
 . rw [e] at hk; exact hap k hk q
 rw [e] at hk;injection hk with hk
 subst hk;have := (ho.own.lt _ q).2;omega
theorem dueS (f : Cnt.K -> Bool) (K : List Cnt.K) (j : Nat) (h : j < K.length) : (K.take (j + 1)).filter f = (K.take j).filter f ++ (if f K[j] = true then [K[j]] else []) := by
 rw [List.take_succ_eq_append_getElem h, List.filter_append]
 cases hf : f K[j] <;> simp [hf]
theorem b58 (v : Value) (L : List Cnt.K) (k : Cnt.K) (w : World) (hv : RE w v L) (hasc : L.Pairwise Cnt.klt) (hl : L.length <= 1000) (hk : k ∈ L) :
 Calls Tryz.prog 29 #[v, kV k] w fun e w' => ∃ u, e = .returned (.tuple #[u, .bool false]) ∧ RE w' u L ∧ Ext w w' := by
 refine (a8m v L k w hv hasc hl).mono ?_;rintro e w' ⟨u, rfl, h2, h3⟩;rw [if_pos hk] at h2;rw [decide_eq_true hk];exact ⟨u, rfl, h2, h3⟩
theorem b59 (v : Value) (L : List Cnt.K) (k : Cnt.K) (w : World) (hv : RE w v L) (hasc : L.Pairwise Cnt.klt) (hl : L.length <= 1000) (hk : k ∉ L) :
 Calls Tryz.prog 29 #[v, kV k] w fun e w' => ∃ u, e = .returned (.tuple #[u, .bool true]) ∧ RE w' u (Fr.a6z L k) ∧ Ext w w' := by
 refine (a8m v L k w hv hasc hl).mono ?_;rintro e w' ⟨u, rfl, h2, h3⟩;rw [if_neg hk] at h2;rw [decide_eq_false hk];exact ⟨u, rfl, h2, h3⟩
theorem a1Z (v u : Value) (l : List Cnt.K) (w : World) (hv : RE w v l) (hu : RE w u l) : Calls Tryz.prog 30 #[v, u] w fun e w' => e = .returned (.bool true) ∧ Ext w w' := by
 have h := b3m v u l l w hv hu;rwa [decide_eq_true rfl] at h
end Go.Proofs.YtdkejfjcchlnpaaGreat
namespace Go.Proofs.YtdkejfjcchlnpaaGreat.Mo
open Go.RowKit Go.Ox
attribute [local irreducible] OP RP
theorem a7i (l : List Mom.M) (m : Mom.M) (k : Nat) (h : k < l.length) : Mom.a0S (l.take (k + 1)) m = (Mom.a0S (l.take k) m || Mom.ahead l[k] m) := by
 unfold Mom.a0S;rw [List.take_succ_eq_append_getElem h, List.any_append]; simp
theorem b1e (l : List Mom.M) (m : Mom.M) (k : Nat) (h : k < l.length) (hq : Mom.ahead l[k] m = true) : Mom.a0S l m = true :=
 Mom.a1j.2 ⟨l[k], List.getElem_mem h, hq⟩
theorem a9g (v : Value) (l : List Mom.M) (m : Mom.M) (w : World) (hv : RP w v l) (hl : l.length <= 1000000000) :
 Calls Tryz.prog 50 #[v, mV m] w fun e w' => e = .returned (.bool (Mom.a0S l m)) ∧ Ext w w' := by
 obtain ⟨A, c, rfl⟩ := hv.form;have HV := hid hv;obtain ⟨m1, m2⟩ := m;have HB0 := hid (Blk.new w 29 #[.int .i64 m1, .int .i64 m2]);have HX0 := hid ((Ext.refl w).alloc (.cells #[.int .i64 m1, .int .i64 m2] 29));have HA := hid (fun (x : Mom.M) (w : World) => b0W x (m1, m2) w)
 have HC0 := hid (show Mom.a0S (l.take l.length) (m1, m2) = Mom.a0S l (m1, m2) by rw [List.take_length])
 clear hv
 go_enter Tryz.func50, Tryz.ntmps50
 go_wp2
 go_loopw [5] (fun i wr => ∃ k : Nat, k <= l.length ∧ i = .int .i64 k ∧ Mom.a0S (l.take k) (m1, m2) = false ∧ Ext (w.alloc (.cells #[.int .i64 m1, .int .i64 m2] 29)) wr) (fun i _ => l.length - (intOf i).toNat)
 case atStart => exact ⟨0, Nat.zero_le _, rfl, rfl, Ext.refl _⟩
 case round =>
 obtain ⟨k, hk, rfl, ht, hext⟩ := hrel;have HT := hid ht;have HX := hid hext;clear ht
 by_cases hlt : k < l.length
 . have g1 : (k : Int) < (l.length : Int) := by omega
   have g0 : 0 <= (k : Int) := by omega
   obtain ⟨b1, o1, rfl, c2, c3⟩ := HV.o.at_ hlt;have c2 := (HX0.o.trans HX.o).cell c2;have c3 := (HX0.o.trans HX.o).cell c3;have c0 := (HB0.o.ext HX.o).cell 0;have c1 := (HB0.o.ext HX.o).cell 1;have HS := hid (a7i l (m1, m2) k hlt);have HH := hid (b1e l (m1, m2) k hlt);have HAx := hid (HA.o l[k]);generalize l[k] = x at *;obtain ⟨x1, x2⟩ := x;dsimp only at *;clear hext
   cases hq : Mom.ahead (x1, x2) (m1, m2) with
   | true =>
    rw [hq] at HAx;have HH := hid (HH.o hq);clear hq
    go_wp2
    refine a0z (by kernel_rfl) (by rfl) (by rfl) (by kernel_rfl) ?_
    refine ma ?_;refine ml2 c2 c3 ?_;refine ml2 c0 c1 ?_;refine mc2 (.bool true) (fun w' _ => HAx.o w') ?_
    refine a1T ?_;intro w5 hx5
    iterate 6 (rintro _ rfl)
    dsimp only [a0y];go_simp;have HX5 := hid (HX.o.trans hx5);clear hx5
    go_wp2
    go_ret
    exact ⟨by rw [HH.o]; rfl, HX0.o.trans HX5.o⟩
   | false =>
   rw [hq] at HAx;have HS2 := hid (show Mom.a0S (l.take (k + 1)) (m1, m2) = false by rw [HS.o, HT.o, hq]; rfl)
   clear hq
   go_wp2
   refine a0z (by kernel_rfl) (by rfl) (by rfl) (by kernel_rfl) ?_
   refine ma ?_;refine ml2 c2 c3 ?_;refine ml2 c0 c1 ?_;refine mc2 (.bool false) (fun w' _ => HAx.o w') ?_
   refine a1T ?_;intro w5 hx5
   iterate 6 (rintro _ rfl)
   dsimp only [a0y];go_simp;have HX5 := hid (HX.o.trans hx5);clear hx5
   go_wp2
   exact ⟨⟨k + 1, by omega, by go_num, HS2.o, HX5.o⟩, by simp [intOf]; omega⟩
 obtain rfl : k = l.length := by omega
 rw [HC0.o] at HT;have g1 : ¬ (l.length : Int) < (l.length : Int) := by omega
 clear hext
 go_wp2
 go_ret
 exact ⟨by rw [HT.o]; rfl, HX0.o.trans HX.o⟩
end Go.Proofs.YtdkejfjcchlnpaaGreat.Mo
