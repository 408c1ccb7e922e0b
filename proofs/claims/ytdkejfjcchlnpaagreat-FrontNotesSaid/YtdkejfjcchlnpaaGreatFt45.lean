/-
  FrNotesL, packed: what the claim needs of them.
-/
import Derived.Test.YtdkejfjcchlnpaaGreatFt44
set_option maxHeartbeats 40000000
open Go.Lib (hid)
set_option linter.unusedSimpArgs false
set_option linter.unusedVariables false
set_option maxRecDepth 100000
namespace Go.Proofs.YtdkejfjcchlnpaaGreat
open Go.RowKit Go.Ox Go.Ox.Gr Go.Shelf Mo Ct
attribute [local irreducible] RE OE a00
structure Aps (p b gc bc gx : Nat) (w2 w3 : World) : Prop where
 gcb : gc ≠ b
 bcb : bc ≠ b
 gxb : gx ≠ b
 pbc : p ≠ bc
 bbc : b ≠ bc
 pgx : p ≠ gx
 bgx : b ≠ gx
 gcx : gc ≠ gx
 bcx : bc ≠ gx
 gxbc : gx ≠ bc
 b2 : w2.heap.size <= b
 bc2 : w2.heap.size <= bc
 gx2 : w2.heap.size <= gx
 bc3 : w3.heap.size <= bc
 gx3 : w3.heap.size <= gx
theorem a5W (d : Nat) (v : Value) (g : G) (u : Value) (O : List FOp) (w : World) (hv : a00 d w v g.1) (hu : RE w u O) (hok : gOk g = false) :
 Calls Tryz.prog 5 #[gAg v g.2, u] w fun e w' => e = .returned (.bool true) ∧ Ext w w' := by
 have HLG := hid (fun B n k W (h : Ext w W) => a5M d v g B n k W (hv.ext h))
 have HNW := hid (fun W (h : Ext w W) => b4X d v g W (hv.ext h) hok)
 have HCK := hid (fun W (h : Ext w W) => (show Calls Tryz.prog 20 #[gAg v g.2] W fun e w' => e = .returned (.bool false) ∧ Ext W w' from by
  have h9 := a4t d v g.1 g.2 W (hv.ext h)
  rwa [show gOk (g.1, g.2) = false from hok] at h9))
 obtain ⟨l, out⟩ := g;simp only at hv;obtain ⟨A, c, rfl⟩ := hv.form;obtain ⟨AU, cU, rfl⟩ := hu.form;have HLG := hid (fun W h => HLG.o none 0 0 W h)
 generalize Fr.a4N (l, out) 0 = LG at *;have HX := hid (show Ext w (w.alloc (.cells #[.slice A l.length c, .int .i64 out] 24)) from a0h [(#[.slice A l.length c, .int .i64 out], 24)] w);have HB0 := hid (show Blk (w.alloc (.cells #[.slice A l.length c, .int .i64 out] 24)) (w.heap.size) 24 #[.slice A l.length c, .int .i64 out] from a08 [(#[.slice A l.length c, .int .i64 out], 24)] w 0 _ _ rfl);clear hv hu hok
 go_enter Tryz.func5, Tryz.ntmps5
 go_upto_region 1 with fail
 generalize w.heap.size = bn at *;generalize w.alloc (.cells #[.slice A l.length c, .int .i64 out] 24) = w0 at *;have c00 := HB0.o.c0;have c01 := HB0.o.c1
 go_wp2_with fail
 refine (HLG.o w0 HX.o).mono ?_;rintro e w1 ⟨rfl, he⟩;clear c00 c01;have HX := hid (HX.o.trans he);have HB0 := hid (HB0.o.ext he);clear he
 cases LG with
 | true =>
  go_wp2_with fail
  refine (a1o w1).mono ?_;rintro e w2 ⟨rfl, he⟩;have HX := hid (HX.o.trans he);clear he
  go_wp2
  go_ret
  exact ⟨rfl, HX.o⟩
 | false =>
 by_cases h30 : 30 < O.length
 . have r1 : (O.length : Int) > 30 := by omega
   have r2 : (30 : Int) < (O.length : Int) := by omega
   go_wp2_with fail
   refine (a1o w1).mono ?_;rintro e w2 ⟨rfl, he⟩;have HX := hid (HX.o.trans he);clear he
   go_wp2
   go_ret
   exact ⟨rfl, HX.o⟩
 have r1 : ¬ (O.length : Int) > 30 := by omega
 have r2 : ¬ (30 : Int) < (O.length : Int) := by omega
 clear h30;have c00 := HB0.o.c0;have c01 := HB0.o.c1
 go_wp2_with fail
 refine (HNW.o w1 HX.o).mono ?_;rintro e w2 ⟨rfl, he⟩;clear c00 c01;have HX := hid (HX.o.trans he);have HB0 := hid (HB0.o.ext he);clear he;clear r1 r2
 go_wp2_with fail
 refine (a9c w2).mono ?_;rintro e w3 ⟨gc, bc, rfl, hg1, hb1, hc, he⟩;clear hg1 hb1 hc;have HX := hid (HX.o.trans he);have HB0 := hid (HB0.o.ext he);clear he;have he : Ext w3 (w3.alloc (.cells #[.slice none 0 0] 61)) := (Ext.refl _).alloc _
 go_upto_region 5 with fail
 have HX := hid (HX.o.trans he);have HB0 := hid (HB0.o.ext he);clear he;generalize w3.alloc (.cells #[.slice none 0 0] 61) = w4 at *;generalize w3.heap.size = gx at *
 go_wp2_with fail
 refine (a1o w4).mono ?_;rintro e w5 ⟨rfl, he⟩;have HX := hid (HX.o.trans he);have HB0 := hid (HB0.o.ext he);clear he;have c00 := HB0.o.c0;have c01 := HB0.o.c1
 go_wp2_with fail
 refine (HCK.o w5 HX.o).mono ?_;rintro e w6 ⟨rfl, he⟩;clear c00 c01;have HX := hid (HX.o.trans he);have HB0 := hid (HB0.o.ext he);clear he
 go_wp2
 go_loopw [9, 10] (fun vv iv wr => iv = .int .i64 0 ∧ vv = .slice none 0 0 ∧ wr = w6) (fun _ _ _ => 0)
 case atStart => exact ⟨rfl, rfl, rfl⟩
 case round =>
 obtain ⟨rfl, rfl, rfl⟩ := hrel
 by_cases h0 : 0 < O.length
 . have r1 : (0 : Int) < (O.length : Int) := by omega
   go_wp2
   go_ret
   exact ⟨rfl, HX.o⟩
 have r1 : ¬ (0 : Int) < (O.length : Int) := by omega
 go_wp2
 go_ret
 exact ⟨rfl, HX.o⟩
theorem a7k (d : Nat) (v : Value) (g : G) (u : Value) (O : List FOp) (w : World) (hv : a00 d w v g.1) (hu : RE w u O) (hok : gOk g = true) :
 Calls Tryz.prog 5 #[gAg v g.2, u] w fun e w' => e = .returned (.bool true) ∧ Ext w w' := by
 have HLG := hid (fun B n k W (h : Ext w W) => a5M d v g B n k W (hv.ext h))
 have HFA := hid (fun n (h : Fr.a4N g n = false) => (show (gPl g).length <= 20 from Pl.b5b (Fr.b5f h).1))
 have HNW := hid (fun W (h : Ext w W) => b04 d v g W (hv.ext h) hok)
 have HCK := hid (fun W (h : Ext w W) => (show Calls Tryz.prog 20 #[gAg v g.2] W fun e w' => e = .returned (.bool true) ∧ Ext W w' from by
  have h9 := a4t d v g.1 g.2 W (hv.ext h)
  rwa [show gOk (g.1, g.2) = true from hok] at h9))
 have HPC := hid (fun q W (h : Ext w W) => a4s d v g q W (hv.ext h) hok)
 have HRD := hid (fun (hn : (gPl g).length <= 20) L (hL : L.length <= 256) x q m W (h : Ext w W) (hx : RE W x L) => b5e d v g x L q m W (hv.ext h) hn hx (by omega))
 have HOK := hid hok;have HU := hid hu;obtain ⟨l, out⟩ := g;simp only at hv;obtain ⟨A, c, rfl⟩ := hv.form;obtain ⟨AU, cU, rfl⟩ := hu.form;have HLG := hid (fun W h => HLG.o none 0 0 W h)
 have HFA := hid (HFA.o 0);generalize Fr.a4N (l, out) 0 = LG at *;have HX := hid (show Ext w (w.alloc (.cells #[.slice A l.length c, .int .i64 out] 24)) from a0h [(#[.slice A l.length c, .int .i64 out], 24)] w);have HB0 := hid (show Blk (w.alloc (.cells #[.slice A l.length c, .int .i64 out] 24)) (w.heap.size) 24 #[.slice A l.length c, .int .i64 out] from a08 [(#[.slice A l.length c, .int .i64 out], 24)] w 0 _ _ rfl);clear hv hu hok
 go_enter Tryz.func5, Tryz.ntmps5
 go_upto_region 1 with fail
 generalize w.heap.size = bn at *;generalize w.alloc (.cells #[.slice A l.length c, .int .i64 out] 24) = w0 at *;have c00 := HB0.o.c0;have c01 := HB0.o.c1
 go_wp2_with fail
 refine (HLG.o w0 HX.o).mono ?_;rintro e w1 ⟨rfl, he⟩;clear c00 c01;have HX := hid (HX.o.trans he);have HB0 := hid (HB0.o.ext he);clear he
 cases LG with
 | true =>
  go_wp2_with fail
  refine (a1o w1).mono ?_;rintro e w2 ⟨rfl, he⟩;have HX := hid (HX.o.trans he);clear he
  go_wp2
  go_ret
  exact ⟨rfl, HX.o⟩
 | false =>
 have HN20 := hid (HFA.o (by first | rfl | trivial))
 clear HFA HLG
 by_cases h30 : 30 < O.length
 . have r1 : (O.length : Int) > 30 := by omega
   have r2 : (30 : Int) < (O.length : Int) := by omega
   go_wp2_with fail
   refine (a1o w1).mono ?_;rintro e w2 ⟨rfl, he⟩;have HX := hid (HX.o.trans he);clear he
   go_wp2
   go_ret
   exact ⟨rfl, HX.o⟩
 have r1 : ¬ (O.length : Int) > 30 := by omega
 have r2 : ¬ (30 : Int) < (O.length : Int) := by omega
 have HO30 := hid h30;clear h30;have c00 := HB0.o.c0;have c01 := HB0.o.c1
 go_wp2_with fail
 refine (HNW.o w1 HX.o).mono ?_;rintro e w2 ⟨p, b, u9, rfl, hp2, hb2, hn, he⟩;clear c00 c01;clear r1 r2;have HE := hid he;have HN := hid hn;have HPB := hid (show w1.heap.size <= p ∧ w1.heap.size <= b from ⟨hp2, hb2⟩);have HN3 := hid hn.nod;clear hp2 hb2 hn he
 go_wp2_with fail
 refine (a9c w2).mono ?_;rintro e w3 ⟨gc, bc, rfl, hg1, hb1, hc, he⟩;have HC := hid hc
 have HNE := hid (show Aps p b gc bc w3.heap.size w1 w2 from by
  have h1 := HN.o.lt;have h2 := hc.lt;have h3 := HPB.o;have h4 := he.size;have h5 := HE.o.size
  constructor <;> omega)
 have HN := hid (HN.o.ext he);have HE := hid (HE.o.trans he);have HR := hid (show ExtM b w2 w3 from ExtM.of he);clear hg1 hb1 hc he HPB;have he : Ext w3 (w3.alloc (.cells #[.slice none 0 0] 61)) := (Ext.refl _).alloc _;have HM := hid (show XM (w3.alloc (.cells #[.slice none 0 0] 61)) w3.heap.size [] from ⟨⟨_, Blk.new w3 61 #[.slice none 0 0], RE.a2g _⟩, Cnt.b02⟩);have HN := hid (HN.o.ext he);have HC := hid (HC.o.ext he);have HR := hid (HR.o.trans (ExtM.of he));have HE := hid (HE.o.trans he);clear he
 go_upto_region 5 with fail
 generalize w3.alloc (.cells #[.slice none 0 0] 61) = w4 at *;generalize w3.heap.size = gx at *;have HV := hid (show RE w4 (.slice none 0 0) ([] : List Cnt.K) from RE.a2g _)
 go_wp2_with fail
 refine (a1o w4).mono ?_;rintro e w5 ⟨rfl, he⟩;have HN := hid (HN.o.ext he);have HC := hid (HC.o.ext he);have HM := hid (HM.o.ext he);have HV := hid (HV.o.ext he);have HR := hid (HR.o.trans (ExtM.of he));have HE := hid (HE.o.trans he);clear he;have c00 := (HB0.o.ext HE.o).c0;have c01 := (HB0.o.ext HE.o).c1
 go_wp2_with fail
 refine (HCK.o w5 (HX.o.trans HE.o)).mono ?_;rintro e w6 ⟨rfl, he⟩;clear c00 c01;have HN := hid (HN.o.ext he);have HC := hid (HC.o.ext he);have HM := hid (HM.o.ext he);have HV := hid (HV.o.ext he);have HR := hid (HR.o.trans (ExtM.of he));have HE := hid (HE.o.trans he);clear he;have HV := hid (show RE w6 (.slice none 0 0) ([] : List Cnt.K) from RE.a2g _)
 go_wp2
 go_loopw [9, 10] (fun vv iv wr => ∃ (i : Nat) (K : List Cnt.K) (C : List Cnt.S), i <= O.length ∧ iv = .int .i64 (i : Int) ∧ RE wr vv K ∧ NM wr p b 2 u9 (l, out) K ∧ CM wr gc bc C ∧ XM wr gx C ∧ K.length <= i ∧ C.length <= i ∧ ExtM b w2 wr ∧ Ext w1 wr) (fun _ iv _ => O.length - (intOf iv).toNat)
 case atStart => exact ⟨0, [], [], Nat.zero_le _, rfl, HV.o, HN.o, HC.o, HM.o, Nat.le_refl _, Nat.le_refl _, HR.o, HE.o⟩
 case round =>
 obtain ⟨i, K, C, hi, rfl, hV, hN, hC, hM, hKl, hCl, hR, hE⟩ := hrel;rename World => wr
 obtain ⟨AV, cV, hvf⟩ := hV.form;subst hvf;have HV := hid hV;have HN := hid hN;have HC := hid hC;have HM := hid hM;have HR := hid hR;have HE := hid hE;have HKL := hid hKl;have HCL := hid hCl;have hi9 : i <= 30 := by have := HO30.o; omega
 have HI9 := hid hi9;clear hV hN hC hM hR hE hKl hCl
 by_cases hlt : i < O.length
 . have r1 : (i : Int) < (O.length : Int) := by omega
   have r0 : 0 <= (i : Int) := by omega
   obtain ⟨bA, oA, rfl, y0, y1, y2, y3, y4, y5⟩ := re6F (HU.o.ext (HX.o.trans HE.o)) hlt;have HLT := hid hlt;obtain ⟨x, hx⟩ : ∃ x, O[i] = x := ⟨_, rfl⟩;replace y0 : wr.cell? ⟨bA, oA + i * 6, none⟩ = some (.int .i64 x.1) := by rw [<- hx]; exact y0
   replace y1 : wr.cell? ⟨bA, oA + i * 6 + 1, none⟩ = some (.int .i64 x.2.1.1.1) := by rw [<- hx]; exact y1
   replace y2 : wr.cell? ⟨bA, oA + i * 6 + 2, none⟩ = some (.int .i64 x.2.1.1.2) := by rw [<- hx]; exact y2
   replace y3 : wr.cell? ⟨bA, oA + i * 6 + 3, none⟩ = some (.int .i64 x.2.1.2.1) := by rw [<- hx]; exact y3
   replace y4 : wr.cell? ⟨bA, oA + i * 6 + 4, none⟩ = some (.int .i64 x.2.1.2.2) := by rw [<- hx]; exact y4
   replace y5 : wr.cell? ⟨bA, oA + i * 6 + 5, none⟩ = some (.int .i64 x.2.2) := by rw [<- hx]; exact y5
   clear hx hlt hi;obtain ⟨kd, ⟨⟨a1, a2⟩, a3, a4⟩, a5⟩ := x;dsimp only at y0 y1 y2 y3 y4 y5
   go_wp2
   refine a0c 14 [] [] Ext Ext (fun _ => True) (by kernel_rfl) (by kernel_rfl) (by kernel_rfl) (by kernel_rfl) (by kernel_rfl) (by kernel_rfl) (by kernel_rfl) (by rfl) (by rfl) (by kernel_rfl) (by kernel_rfl) (by kernel_rfl) (fun _ _ _ x y => x.trans y) Ext.refl (fun _ _ x => x) (Ext.refl _).drew (fun _ _ x _ => x) trivial ?_
   refine ya ?_;refine yl2 y1 y2 ?_;refine ya ?_;refine yl2 y3 y4 ?_;refine a0j rfl rfl (a03 rfl) Ext.refl rfl ?_; apply Exists.intro; refine ⟨?_, ?_⟩
   . intro a w' hR h1 h2
     have e1 : _ = _ := h1;have e2 : _ = _ := h2;have q1 := e1; rw [Array.getD_eq_getD_getElem?] at q1;have q2 := e2; rw [Array.getD_eq_getD_getElem?] at q2;go_simp;rfl
   refine a09 (fun v w => ∃ n, v = .pointer (some ⟨n, 0, none⟩) ∧ wr.heap.size <= n ∧ Blk w n 66 #[.int .i64 0, .int .i64 0, .int .i64 0, .int .i64 0]) rfl rfl (a03 rfl) rfl (by first | exact a0g | exact (fun _ _ _ h k => Rd.ext h k) | exact (fun _ _ _ h k => RB.ext h k) | exact (fun _ _ _ h k => OB.ext h k) | exact (fun _ _ _ h k => RB.extS h k) | exact (fun _ _ _ h k => Rd.ext h (a04.ext k)) | exact (fun _ _ _ h k => RP.ext h k) | exact (fun _ _ _ h k => OP.ext h k) | exact (fun _ _ _ h k => Rd.extV h k) | exact (fun _ _ _ h k => RB.extV h k) | exact (fun _ _ _ h k => E0.ext h k) | exact (fun _ _ _ h k => O0.ext h k) | exact (fun _ _ _ h k => RE.ext h k) | exact (fun _ _ _ h k => RE.extD h k) | exact (fun _ _ _ h _ => h) | exact (fun _ _ _ ⟨n, h1, h2⟩ k => ⟨n, h1, k.st _ _ h2⟩) | exact (fun _ _ _ h k => OE.ext h k) | exact (fun _ _ _ ⟨n, h1, h2, h3⟩ k => ⟨n, h1, h2, h3.ext k⟩)) ?_ ?_
   . intro a w' hR  K hK
     go_simp;exact hK _ _ ((Ext.refl _).alloc _) ⟨_, rfl, hR.size, Blk.new _ _ _⟩
   refine a01 ?_;intro wa he hS
   iterate 13 (rintro _ rfl)
   rintro v11 h11;dsimp only [a0y];go_simp;clear hS;obtain ⟨bz, hv11, hbz, hB⟩ := h11;subst hv11;simp only [a0n, List.drop_succ_cons, List.drop_zero];have he : Ext wr wa := he;have he : Ext wr ((((wa.setCell ⟨bz, 0, none⟩ (.int .i64 a1)).setCell ⟨bz, 1, none⟩ (.int .i64 a2)).setCell ⟨bz, 2, none⟩ (.int .i64 a3)).setCell ⟨bz, 3, none⟩ (.int .i64 a4)) := (((he.setCell hbz _).setCell hbz _).setCell hbz _).setCell hbz _;have HZ := hid (show Blk ((((wa.setCell ⟨bz, 0, none⟩ (.int .i64 a1)).setCell ⟨bz, 1, none⟩ (.int .i64 a2)).setCell ⟨bz, 2, none⟩ (.int .i64 a3)).setCell ⟨bz, 3, none⟩ (.int .i64 a4)) bz 66 #[.int .i64 a1, .int .i64 a2, .int .i64 a3, .int .i64 a4] from (((hB.a0q 0 (.int .i64 a1)).a0q 1 (.int .i64 a2)).a0q 2 (.int .i64 a3)).a0q 3 (.int .i64 a4));have HBZ := hid (show bz ≠ b from Ne.symm (Nat.ne_of_lt (Nat.lt_of_lt_of_le HN.o.lt.2 hbz)));have s0 := hB.cell 0;have s0f := hB.frozen 0;have s1 := (hB.a0q 0 (.int .i64 a1)).cell 1;have s1f := (hB.a0q 0 (.int .i64 a1)).frozen 1;have s2 := ((hB.a0q 0 (.int .i64 a1)).a0q 1 (.int .i64 a2)).cell 2;have s2f := ((hB.a0q 0 (.int .i64 a1)).a0q 1 (.int .i64 a2)).frozen 2;have s3 := (((hB.a0q 0 (.int .i64 a1)).a0q 1 (.int .i64 a2)).a0q 2 (.int .i64 a3)).cell 3;have s3f := (((hB.a0q 0 (.int .i64 a1)).a0q 1 (.int .i64 a2)).a0q 2 (.int .i64 a3)).frozen 3
   go_upto_region 12 with fail
   clear s0 s0f s1 s1f s2 s2f s3 s3f hB hbz;have y0 := he.cell y0;have y1 := he.cell y1;have y2 := he.cell y2;have y3 := he.cell y3;have y4 := he.cell y4;have y5 := he.cell y5;have HN := hid (HN.o.ext he);have HC := hid (HC.o.ext he);have HM := hid (HM.o.ext he);have HV := hid (HV.o.ext he);have HR := hid (HR.o.trans (ExtM.of he));have HE := hid (HE.o.trans he);clear he;generalize ((((wa.setCell ⟨bz, 0, none⟩ (.int .i64 a1)).setCell ⟨bz, 1, none⟩ (.int .i64 a2)).setCell ⟨bz, 2, none⟩ (.int .i64 a3)).setCell ⟨bz, 3, none⟩ (.int .i64 a4)) = wb at *
   by_cases hk1 : kd = 1
   . subst hk1
     clear y1 y2 y3 y4 y5;have HAS := hid HN.o.asc;obtain ⟨sq, hsq⟩ : ∃ sq, (gNd (l, out) (a1, a2)).isSome = sq := ⟨_, rfl⟩;obtain ⟨om, hom⟩ : ∃ om, Mom.ok (a3, a4) = om := ⟨_, rfl⟩
     cases sq with
     | false =>
      have HSQ := hid hsq;have HF9 := hid (Fr.ask_pl (L := K) (m := (a3, a4)) HOK.o hsq);clear hsq hom;have HAK := hid (a2E wb p b 2 u9 (l, out) K (a1, a2) (a3, a4) HN.o);rw [(HF9.o).1, (HF9.o).2] at HAK;have z0 := HZ.o.c0;have z1 := HZ.o.c1;have z2 := HZ.o.c2;have z3 := HZ.o.c3
      go_wp2_with fail
      refine (HAK.o).mono ?_;rintro e wc ⟨rfl, hn9, wx, hx9, hm9⟩;clear z0 z1 z2 z3;have he : ExtM b wb wc := (ExtM.of hx9).trans hm9;have HN9 := hid hn9;clear hn9 hx9 hm9 HAK;have HN := hid HN9.o;have HC := hid (HC.o.a1c he HNE.o.gcb HNE.o.bcb);have HM := hid (HM.o.a1c he HNE.o.gxb);have HV := hid (a1F HV.o he);have HR := hid (HR.o.trans he);have HE := hid (HE.o.andM he HNE.o.b2);have HZ := hid (HZ.o.a1c he HBZ.o);clear he;have c00 := (HB0.o.ext HE.o).c0;have c01 := (HB0.o.ext HE.o).c1;have z0 := HZ.o.c0;have z1 := HZ.o.c1;have z2 := HZ.o.c2;have z3 := HZ.o.c3;have HP9 := hid (HPC.o (a1, a2));rw [HSQ.o] at HP9
      go_wp2_with fail
      refine (HP9.o wc (HX.o.trans HE.o)).mono ?_;rintro e wd ⟨rfl, he⟩;clear c00 c01 z0 z1 z2 z3 HP9;have HN := hid (HN.o.ext he);have HC := hid (HC.o.ext he);have HM := hid (HM.o.ext he);have HV := hid (HV.o.ext he);have HR := hid (HR.o.trans (ExtM.of he));have HE := hid (HE.o.trans he);have HZ := hid (HZ.o.ext he);clear he
      go_wp2_with fail
      refine (a0L wd p b 2 u9 (l, out) K HN.o (by have := (Nat.le_succ_of_le HKL.o); omega)).mono ?_
      rintro e wq ⟨uq, rfl, hq, he⟩;obtain ⟨Aq, cq, rfl⟩ := hq.re.form;obtain ⟨Av, cv, hvf⟩ := HV.o.form;have HQ := hid hq.re;clear hq;have HN := hid (HN.o.ext he);have HC := hid (HC.o.ext he);have HM := hid (HM.o.ext he);have HV := hid (HV.o.ext he);have HR := hid (HR.o.trans (ExtM.of he));have HE := hid (HE.o.trans he);clear he
      go_wp2_with fail
      refine (a1Z _ _ K wq HQ.o HV.o).mono ?_;rintro e wr2 ⟨rfl, he⟩;have HN := hid (HN.o.ext he);have HC := hid (HC.o.ext he);have HM := hid (HM.o.ext he);have HV := hid (HV.o.ext he);have HR := hid (HR.o.trans (ExtM.of he));have HE := hid (HE.o.trans he);clear he
      go_wp2
      exact ⟨⟨i + 1, K, C, HLT.o, by go_num, HV.o, HN.o, HC.o, HM.o, (Nat.le_succ_of_le HKL.o), (Nat.le_succ_of_le HCL.o), HR.o, HE.o⟩, by have := HLT.o; simp [intOf]; omega⟩
     | true =>
     have HSQ := hid hsq
     cases om with
     | false =>
      have HOM := hid hom;have HF9 := hid (Fr.ask_mo (L := K) HOK.o hsq hom);clear hsq hom;have HAK := hid (a2E wb p b 2 u9 (l, out) K (a1, a2) (a3, a4) HN.o);rw [(HF9.o).1, (HF9.o).2] at HAK;have z0 := HZ.o.c0;have z1 := HZ.o.c1;have z2 := HZ.o.c2;have z3 := HZ.o.c3
      go_wp2_with fail
      refine (HAK.o).mono ?_;rintro e wc ⟨rfl, hn9, wx, hx9, hm9⟩;clear z0 z1 z2 z3;have he : ExtM b wb wc := (ExtM.of hx9).trans hm9;have HN9 := hid hn9;clear hn9 hx9 hm9 HAK;have HN := hid HN9.o;have HC := hid (HC.o.a1c he HNE.o.gcb HNE.o.bcb);have HM := hid (HM.o.a1c he HNE.o.gxb);have HV := hid (a1F HV.o he);have HR := hid (HR.o.trans he);have HE := hid (HE.o.andM he HNE.o.b2);have HZ := hid (HZ.o.a1c he HBZ.o);clear he;have c00 := (HB0.o.ext HE.o).c0;have c01 := (HB0.o.ext HE.o).c1;have z0 := HZ.o.c0;have z1 := HZ.o.c1;have z2 := HZ.o.c2;have z3 := HZ.o.c3;have HP9 := hid (HPC.o (a1, a2));rw [HSQ.o] at HP9
      go_wp2_with fail
      refine (HP9.o wc (HX.o.trans HE.o)).mono ?_;rintro e wd ⟨rfl, he⟩;clear c00 c01 z0 z1 z2 z3 HP9;have HN := hid (HN.o.ext he);have HC := hid (HC.o.ext he);have HM := hid (HM.o.ext he);have HV := hid (HV.o.ext he);have HR := hid (HR.o.trans (ExtM.of he));have HE := hid (HE.o.trans he);have HZ := hid (HZ.o.ext he);clear he;have z0 := HZ.o.c0;have z1 := HZ.o.c1;have z2 := HZ.o.c2;have z3 := HZ.o.c3;have HM9 := hid (Mo.a0w (a3, a4) wd);rw [HOM.o] at HM9
      go_wp2_with fail
      refine (HM9.o).mono ?_;rintro e we ⟨rfl, he⟩;clear z0 z1 z2 z3 HM9;have HN := hid (HN.o.ext he);have HC := hid (HC.o.ext he);have HM := hid (HM.o.ext he);have HV := hid (HV.o.ext he);have HR := hid (HR.o.trans (ExtM.of he));have HE := hid (HE.o.trans he);have HZ := hid (HZ.o.ext he);clear he
      go_wp2_with fail
      refine (a0L we p b 2 u9 (l, out) K HN.o (by have := (Nat.le_succ_of_le HKL.o); omega)).mono ?_
      rintro e wq ⟨uq, rfl, hq, he⟩;obtain ⟨Aq, cq, rfl⟩ := hq.re.form;obtain ⟨Av, cv, hvf⟩ := HV.o.form;have HQ := hid hq.re;clear hq;have HN := hid (HN.o.ext he);have HC := hid (HC.o.ext he);have HM := hid (HM.o.ext he);have HV := hid (HV.o.ext he);have HR := hid (HR.o.trans (ExtM.of he));have HE := hid (HE.o.trans he);clear he
      go_wp2_with fail
      refine (a1Z _ _ K wq HQ.o HV.o).mono ?_;rintro e wr2 ⟨rfl, he⟩;have HN := hid (HN.o.ext he);have HC := hid (HC.o.ext he);have HM := hid (HM.o.ext he);have HV := hid (HV.o.ext he);have HR := hid (HR.o.trans (ExtM.of he));have HE := hid (HE.o.trans he);clear he
      go_wp2
      exact ⟨⟨i + 1, K, C, HLT.o, by go_num, HV.o, HN.o, HC.o, HM.o, (Nat.le_succ_of_le HKL.o), (Nat.le_succ_of_le HCL.o), HR.o, HE.o⟩, by have := HLT.o; simp [intOf]; omega⟩
     | true =>
     have HOM := hid hom
     by_cases hin : ((a1, a2), a3, a4) ∈ K
     . have HIN := hid hin
       have HF9 := hid (Fr.ask_in (L := K) HOK.o hsq hom hin);clear hsq hom hin;have HAK := hid (a2E wb p b 2 u9 (l, out) K (a1, a2) (a3, a4) HN.o);rw [(HF9.o).1, (HF9.o).2] at HAK;have z0 := HZ.o.c0;have z1 := HZ.o.c1;have z2 := HZ.o.c2;have z3 := HZ.o.c3
       go_wp2_with fail
       refine (HAK.o).mono ?_;rintro e wc ⟨rfl, hn9, wx, hx9, hm9⟩;clear z0 z1 z2 z3;have he : ExtM b wb wc := (ExtM.of hx9).trans hm9;have HN9 := hid hn9;clear hn9 hx9 hm9 HAK;have HN := hid HN9.o;have HC := hid (HC.o.a1c he HNE.o.gcb HNE.o.bcb);have HM := hid (HM.o.a1c he HNE.o.gxb);have HV := hid (a1F HV.o he);have HR := hid (HR.o.trans he);have HE := hid (HE.o.andM he HNE.o.b2);have HZ := hid (HZ.o.a1c he HBZ.o);clear he;have c00 := (HB0.o.ext HE.o).c0;have c01 := (HB0.o.ext HE.o).c1;have z0 := HZ.o.c0;have z1 := HZ.o.c1;have z2 := HZ.o.c2;have z3 := HZ.o.c3;have HP9 := hid (HPC.o (a1, a2));rw [HSQ.o] at HP9
       go_wp2_with fail
       refine (HP9.o wc (HX.o.trans HE.o)).mono ?_;rintro e wd ⟨rfl, he⟩;clear c00 c01 z0 z1 z2 z3 HP9;have HN := hid (HN.o.ext he);have HC := hid (HC.o.ext he);have HM := hid (HM.o.ext he);have HV := hid (HV.o.ext he);have HR := hid (HR.o.trans (ExtM.of he));have HE := hid (HE.o.trans he);have HZ := hid (HZ.o.ext he);clear he;have z0 := HZ.o.c0;have z1 := HZ.o.c1;have z2 := HZ.o.c2;have z3 := HZ.o.c3;have HM9 := hid (Mo.a0w (a3, a4) wd);rw [HOM.o] at HM9
       go_wp2_with fail
       refine (HM9.o).mono ?_;rintro e we ⟨rfl, he⟩;clear z0 z1 z2 z3 HM9;have HN := hid (HN.o.ext he);have HC := hid (HC.o.ext he);have HM := hid (HM.o.ext he);have HV := hid (HV.o.ext he);have HR := hid (HR.o.trans (ExtM.of he));have HE := hid (HE.o.trans he);have HZ := hid (HZ.o.ext he);clear he;have z0 := HZ.o.c0;have z1 := HZ.o.c1;have z2 := HZ.o.c2;have z3 := HZ.o.c3;have HPU := hid (b58 _ K ((a1, a2), a3, a4) we HV.o HAS.o (by have := HKL.o; have := HI9.o; omega) HIN.o)
       go_wp2_with fail
       refine (HPU.o).mono ?_;rintro e wf ⟨uf, rfl, hv9, he⟩;obtain ⟨AW, cW, rfl⟩ := hv9.form;have HV9 := hid hv9;clear z0 z1 z2 z3 hv9 HPU;have HN := hid (HN.o.ext he);have HC := hid (HC.o.ext he);have HM := hid (HM.o.ext he);have HV := hid (HV.o.ext he);have HR := hid (HR.o.trans (ExtM.of he));have HE := hid (HE.o.trans he);have HZ := hid (HZ.o.ext he);clear he;have HV := hid HV9.o;clear HV9
       go_wp2_with fail
       refine (a0L wf p b 2 u9 (l, out) K HN.o (by have := (Nat.le_succ_of_le HKL.o); omega)).mono ?_
       rintro e wq ⟨uq, rfl, hq, he⟩;obtain ⟨Aq, cq, rfl⟩ := hq.re.form;obtain ⟨Av, cv, hvf⟩ := HV.o.form;have HQ := hid hq.re;clear hq;have HN := hid (HN.o.ext he);have HC := hid (HC.o.ext he);have HM := hid (HM.o.ext he);have HV := hid (HV.o.ext he);have HR := hid (HR.o.trans (ExtM.of he));have HE := hid (HE.o.trans he);clear he
       go_wp2_with fail
       refine (a1Z _ _ K wq HQ.o HV.o).mono ?_;rintro e wr2 ⟨rfl, he⟩;have HN := hid (HN.o.ext he);have HC := hid (HC.o.ext he);have HM := hid (HM.o.ext he);have HV := hid (HV.o.ext he);have HR := hid (HR.o.trans (ExtM.of he));have HE := hid (HE.o.trans he);clear he
       go_wp2
       exact ⟨⟨i + 1, K, C, HLT.o, by go_num, HV.o, HN.o, HC.o, HM.o, (Nat.le_succ_of_le HKL.o), (Nat.le_succ_of_le HCL.o), HR.o, HE.o⟩, by have := HLT.o; simp [intOf]; omega⟩
     have HIN := hid hin;have HF9 := hid (Fr.ask_no (L := K) HOK.o hsq hom hin);have HPL := hid (show (Fr.a6z K ((a1, a2), a3, a4)).length <= i + 1 from by have := Fr.b50 K ((a1, a2), a3, a4); have := HKL.o; omega)
     clear hsq hom hin;have HAK := hid (a2E wb p b 2 u9 (l, out) K (a1, a2) (a3, a4) HN.o);rw [(HF9.o).1, (HF9.o).2] at HAK;have z0 := HZ.o.c0;have z1 := HZ.o.c1;have z2 := HZ.o.c2;have z3 := HZ.o.c3
     go_wp2_with fail
     refine (HAK.o).mono ?_;rintro e wc ⟨rfl, hn9, wx, hx9, hm9⟩;clear z0 z1 z2 z3;have he : ExtM b wb wc := (ExtM.of hx9).trans hm9;have HN9 := hid hn9;clear hn9 hx9 hm9 HAK;have HN := hid HN9.o;have HC := hid (HC.o.a1c he HNE.o.gcb HNE.o.bcb);have HM := hid (HM.o.a1c he HNE.o.gxb);have HV := hid (a1F HV.o he);have HR := hid (HR.o.trans he);have HE := hid (HE.o.andM he HNE.o.b2);have HZ := hid (HZ.o.a1c he HBZ.o);clear he;have c00 := (HB0.o.ext HE.o).c0;have c01 := (HB0.o.ext HE.o).c1;have z0 := HZ.o.c0;have z1 := HZ.o.c1;have z2 := HZ.o.c2;have z3 := HZ.o.c3;have HP9 := hid (HPC.o (a1, a2));rw [HSQ.o] at HP9
     go_wp2_with fail
     refine (HP9.o wc (HX.o.trans HE.o)).mono ?_;rintro e wd ⟨rfl, he⟩;clear c00 c01 z0 z1 z2 z3 HP9;have HN := hid (HN.o.ext he);have HC := hid (HC.o.ext he);have HM := hid (HM.o.ext he);have HV := hid (HV.o.ext he);have HR := hid (HR.o.trans (ExtM.of he));have HE := hid (HE.o.trans he);have HZ := hid (HZ.o.ext he);clear he;have z0 := HZ.o.c0;have z1 := HZ.o.c1;have z2 := HZ.o.c2;have z3 := HZ.o.c3;have HM9 := hid (Mo.a0w (a3, a4) wd);rw [HOM.o] at HM9
     go_wp2_with fail
     refine (HM9.o).mono ?_;rintro e we ⟨rfl, he⟩;clear z0 z1 z2 z3 HM9;have HN := hid (HN.o.ext he);have HC := hid (HC.o.ext he);have HM := hid (HM.o.ext he);have HV := hid (HV.o.ext he);have HR := hid (HR.o.trans (ExtM.of he));have HE := hid (HE.o.trans he);have HZ := hid (HZ.o.ext he);clear he;have z0 := HZ.o.c0;have z1 := HZ.o.c1;have z2 := HZ.o.c2;have z3 := HZ.o.c3;have HPU := hid (b59 _ K ((a1, a2), a3, a4) we HV.o HAS.o (by have := HKL.o; have := HI9.o; omega) HIN.o)
     go_wp2_with fail
     refine (HPU.o).mono ?_;rintro e wf ⟨uf, rfl, hv9, he⟩;obtain ⟨AW, cW, rfl⟩ := hv9.form;have HV9 := hid hv9;clear z0 z1 z2 z3 hv9 HPU;have HN := hid (HN.o.ext he);have HC := hid (HC.o.ext he);have HM := hid (HM.o.ext he);have HV := hid (HV.o.ext he);have HR := hid (HR.o.trans (ExtM.of he));have HE := hid (HE.o.trans he);have HZ := hid (HZ.o.ext he);clear he;have HV := hid HV9.o;clear HV9
     go_wp2_with fail
     refine (a0L wf p b 2 u9 (l, out) (Fr.a6z K ((a1, a2), a3, a4)) HN.o (by have := HPL.o; omega)).mono ?_
     rintro e wq ⟨uq, rfl, hq, he⟩;obtain ⟨Aq, cq, rfl⟩ := hq.re.form;obtain ⟨Av, cv, hvf⟩ := HV.o.form;have HQ := hid hq.re;clear hq;have HN := hid (HN.o.ext he);have HC := hid (HC.o.ext he);have HM := hid (HM.o.ext he);have HV := hid (HV.o.ext he);have HR := hid (HR.o.trans (ExtM.of he));have HE := hid (HE.o.trans he);clear he
     go_wp2_with fail
     refine (a1Z _ _ (Fr.a6z K ((a1, a2), a3, a4)) wq HQ.o HV.o).mono ?_;rintro e wr2 ⟨rfl, he⟩;have HN := hid (HN.o.ext he);have HC := hid (HC.o.ext he);have HM := hid (HM.o.ext he);have HV := hid (HV.o.ext he);have HR := hid (HR.o.trans (ExtM.of he));have HE := hid (HE.o.trans he);clear he
     go_wp2
     exact ⟨⟨i + 1, (Fr.a6z K ((a1, a2), a3, a4)), C, HLT.o, by go_num, HV.o, HN.o, HC.o, HM.o, HPL.o, (Nat.le_succ_of_le HCL.o), HR.o, HE.o⟩, by have := HLT.o; simp [intOf]; omega⟩
   by_cases hk2 : kd = 2
   . subst hk2
     clear y1 y2 y3 y4 y5 hk1;obtain ⟨f, hf⟩ : ∃ f, (fun k : Cnt.K => Fr.due (l, out) C k.1 k.2) = f := ⟨_, rfl⟩
     have HDF := hid (fun k : Cnt.K => (show Fr.due (l, out) C k.1 k.2 = f k from by rw [<- hf]))
     have HTK := hid (fun W h hc => b05 W p b 2 u9 (l, out) K gc bc C h (by have := HKL.o; have := HI9.o; omega) HN20.o hc (by have := HCL.o; have := HI9.o; omega))
     rw [show (fun k : Cnt.K => Fr.due (l, out) C k.1 k.2) = f from hf, show (fun k : Cnt.K => !Fr.due (l, out) C k.1 k.2) = (fun k => !f k) from by rw [<- hf]] at HTK
     have HRD9 := hid (fun x q m W h hx => HRD.o HN20.o C (by have := HCL.o; have := HI9.o; omega) x q m W h hx)
     have HD1 := hid (fun j h => dueS f K j h)
     have HD2 := hid (fun j h => dueS (fun k => !f k) K j h)
     have HFL := hid (fun (j : Nat) => (show ((K.take j).filter f).length <= 1000 ∧ ((K.take j).filter fun k => !f k).length <= 1000 from by
      have h1 := List.length_filter_le f (K.take j);have h2 := List.length_filter_le (fun k => !f k) (K.take j)
      have h3 := HKL.o;have h4 := HI9.o;rw [List.length_take] at h1 h2
      omega))
     have HK2 := hid (show (K.filter fun k => !f k).length <= i + 1 from Nat.le_trans (List.length_filter_le _ _) (Nat.le_succ_of_le HKL.o))
     clear hf;have HS0 := hid (Nat.le_refl wb.heap.size)
     go_wp2
     go_loopw [16, 17, 18] (fun dv lv jv wq => ∃ j : Nat, j <= K.length ∧ jv = .int .i64 (j : Int) ∧ OE 66 wb.heap.size wq dv ((K.take j).filter f) ∧ OE 66 wb.heap.size wq lv ((K.take j).filter fun k => !f k) ∧ (∀ k, dv.ownBlock = some k -> lv.ownBlock ≠ some k) ∧ Ext wb wq) (fun _ _ jv _ => K.length - (intOf jv).toNat)
     case atStart => exact ⟨0, Nat.zero_le _, rfl, OE.a2g _ _ _, OE.a2g _ _ _, (fun k hk => by cases hk), Ext.refl _⟩
     case round =>
     obtain ⟨j, hj, rfl, ho1, ho2, hap, hx⟩ := hrel;rename World => wq
     obtain ⟨A1, c1, h1f⟩ := ho1.re.form;obtain ⟨A2, c2, h2f⟩ := ho2.re.form;have HO1 := hid ho1;have HO2 := hid ho2;have HAP := hid hap;have HXQ := hid hx;clear ho1 ho2 hap;have HN := hid (HN.o.ext hx);have HC := hid (HC.o.ext hx);have HM := hid (HM.o.ext hx);have HV := hid (HV.o.ext hx);have HR := hid (HR.o.trans (ExtM.of hx));have HE := hid (HE.o.trans hx);have HZ := hid (HZ.o.ext hx);clear hx;have hj9 : j <= 30 := by have := HKL.o; have := HI9.o; omega
     by_cases hjl : j < K.length
     . have q1 : (j : Int) < (K.length : Int) := by omega
       have q0 : 0 <= (j : Int) := by omega
       obtain ⟨bV, oV, hAV, v0, v1, v2, v3⟩ := reA4 HV.o hjl;have HJL := hid hjl;have HE1 := hid (HD1.o j hjl);have HE2 := hid (HD2.o j hjl);have HFJ := hid (HFL.o j);obtain ⟨y, hy⟩ : ∃ y, K[j] = y := ⟨_, rfl⟩;replace v0 : wq.cell? ⟨bV, oV + j * 4, none⟩ = some (.int .i64 y.1.1) := by rw [<- hy]; exact v0
       replace v1 : wq.cell? ⟨bV, oV + j * 4 + 1, none⟩ = some (.int .i64 y.1.2) := by rw [<- hy]; exact v1
       replace v2 : wq.cell? ⟨bV, oV + j * 4 + 2, none⟩ = some (.int .i64 y.2.1) := by rw [<- hy]; exact v2
       replace v3 : wq.cell? ⟨bV, oV + j * 4 + 3, none⟩ = some (.int .i64 y.2.2) := by rw [<- hy]; exact v3
       replace HE1 := hid (show (K.take (j + 1)).filter f = (K.take j).filter f ++ (if f y = true then [y] else []) from by rw [<- hy]; exact HE1.o)
       replace HE2 := hid (show (K.take (j + 1)).filter (fun k => !f k) = (K.take j).filter (fun k => !f k) ++ (if (!f y) = true then [y] else []) from by rw [<- hy]; exact HE2.o)
       have HDY := hid (HDF.o y);obtain ⟨fy, hfy⟩ : ∃ fy, f y = fy := ⟨_, rfl⟩;rw [hfy] at HE1 HE2 HDY;clear hy hfy hjl;obtain ⟨⟨y1, y2⟩, y3, y4⟩ := y;dsimp only at v0 v1 v2 v3 HDY;subst hAV;have c00 := (HB0.o.ext HE.o).c0;have c01 := (HB0.o.ext HE.o).c1;obtain ⟨vx, hbx, hrx⟩ := HM.o.row;have x0 := hbx.c0;have HRX := hid hrx;obtain ⟨AX, cX, hvx⟩ := hrx.form;subst hvx;clear hbx hrx;have HDC := hid (fun z W h hx => HRD9.o z (y1, y2) (y3, y4) W h hx)
       rw [HDY.o] at HDC;generalize (K.take j).filter f = L1 at *;generalize ((K.take j).filter fun k => !f k) = L2 at *
       subst h1f;subst h2f
       cases fy with
       | true =>
        have HG1 := hid (show (K.take (j + 1)).filter f = L1 ++ [((y1, y2), y3, y4)] from by rw [HE1.o]; simp)
        have HG2 := hid (show (K.take (j + 1)).filter (fun k => !f k) = L2 from by rw [HE2.o]; simp)
        clear HE1 HE2
        go_wp2
        refine yx ?_;refine yl2 c00 c01 ?_;refine ya1 ?_;refine ya1 ?_;refine ya1 ?_;refine yl1 x0 ?_;refine ya ?_;refine yl2 v0 v1 ?_;refine ya ?_;refine yl2 v2 v3 ?_;refine yc4 (.bool true) (fun w' hR => HDC.o _ w' ((HX.o.trans HE.o).trans hR) (HRX.o.ext hR)) ?_
        refine a01 ?_;intro ws he hS
        iterate 16 (rintro _ rfl)
        dsimp only [a0y];go_simp;have he : Ext wq ws := he;have v0 := he.cell v0;have v1 := he.cell v1;have v2 := he.cell v2;have v3 := he.cell v3;clear hS c00 c01 x0;have hxl : Ext ws (ws.alloc (.cells #[.int .i64 y1, .int .i64 y2, .int .i64 y3, .int .i64 y4] 66)) := (Ext.refl _).alloc _;have HLIT := hid (RE.lit ws #[.int .i64 y1, .int .i64 y2, .int .i64 y3, .int .i64 y4] 66 1 [((y1, y2), y3, y4)] rfl (by omega) rfl)
        have HO1 := hid ((HO1.o.ext he).ext hxl);have HO2 := hid ((HO2.o.ext he).ext hxl);have HXQ := hid ((HXQ.o.trans he).trans hxl);clear he hxl
        go_wp2_with (at_builtin; refine a0v rfl a3h _ _ _ rfl wb.heap.size _ _ _ rfl HO1.o.own _ 1 _ rfl HLIT.o.rd (a2P _) (by have := HFJ.o; omega) (by have := HFJ.o; unfold maxLen; omega) HXQ.o.size ?_; intro vn wn ha)
        obtain ⟨ho9, hap9⟩ := a8q ha HO2.o HAP.o;exact ⟨⟨j + 1, HJL.o, by go_num, by rw [HG1.o]; exact OE.app ha.own, by rw [HG2.o]; exact ho9, hap9, ha.ext HXQ.o rfl HO1.o.own⟩, by have := HJL.o; simp [intOf]; omega⟩
       | false =>
       have HG1 := hid (show (K.take (j + 1)).filter f = L1 from by rw [HE1.o]; simp)
       have HG2 := hid (show (K.take (j + 1)).filter (fun k => !f k) = L2 ++ [((y1, y2), y3, y4)] from by rw [HE2.o]; simp)
       clear HE1 HE2
       go_wp2
       refine yx ?_;refine yl2 c00 c01 ?_;refine ya1 ?_;refine ya1 ?_;refine ya1 ?_;refine yl1 x0 ?_;refine ya ?_;refine yl2 v0 v1 ?_;refine ya ?_;refine yl2 v2 v3 ?_;refine yc4 (.bool false) (fun w' hR => HDC.o _ w' ((HX.o.trans HE.o).trans hR) (HRX.o.ext hR)) ?_
       refine a01 ?_;intro ws he hS
       iterate 16 (rintro _ rfl)
       dsimp only [a0y];go_simp;have he : Ext wq ws := he;have v0 := he.cell v0;have v1 := he.cell v1;have v2 := he.cell v2;have v3 := he.cell v3;clear hS c00 c01 x0;have hxl : Ext ws (ws.alloc (.cells #[.int .i64 y1, .int .i64 y2, .int .i64 y3, .int .i64 y4] 66)) := (Ext.refl _).alloc _;have HLIT := hid (RE.lit ws #[.int .i64 y1, .int .i64 y2, .int .i64 y3, .int .i64 y4] 66 1 [((y1, y2), y3, y4)] rfl (by omega) rfl)
       have HO1 := hid ((HO1.o.ext he).ext hxl);have HO2 := hid ((HO2.o.ext he).ext hxl);have HXQ := hid ((HXQ.o.trans he).trans hxl);clear he hxl
       go_wp2_with (at_builtin; refine a0v rfl a3h _ _ _ rfl wb.heap.size _ _ _ rfl HO2.o.own _ 1 _ rfl HLIT.o.rd (a2P _) (by have := HFJ.o; omega) (by have := HFJ.o; unfold maxLen; omega) HXQ.o.size ?_; intro vn wn ha)
       obtain ⟨ho9, hap9⟩ := a8q ha HO1.o (fun k h1 h2 => HAP.o k h2 h1)
       exact ⟨⟨j + 1, HJL.o, by go_num, by rw [HG1.o]; exact ho9, by rw [HG2.o]; exact OE.app ha.own, fun k h1 h2 => hap9 k h2 h1, ha.ext HXQ.o rfl HO2.o.own⟩, by have := HJL.o; simp [intOf]; omega⟩
     have q1 : ¬ (j : Int) < (K.length : Int) := by omega
     obtain rfl : j = K.length := by omega
     have HFJ := hid (HFL.o K.length);rw [List.take_length] at HO1 HO2 h1f h2f HFJ;have hjn := hjl;clear hjl hj HDF HRD9 HD1 HD2 HFL;generalize K.filter f = L1 at *;generalize (K.filter fun k => !f k) = L2 at *
     subst h1f;subst h2f
     go_wp2_with fail
     refine (HTK.o wq HN.o HC.o).mono ?_;rintro e wt ⟨ut, rfl, hut, hn9, wx, hx9, hm9⟩;have he : ExtM b wq wt := (ExtM.of hx9).trans hm9;have HN9 := hid hn9;have HUT := hid hut;obtain ⟨At, ct, htf⟩ := hut.form;subst htf;have HO1 := hid (a1F HO1.o.re he);have HO2 := hid (a1F HO2.o.re he);clear hn9 hx9 hm9 hut;have HN := hid HN9.o;have HC := hid (HC.o.a1c he HNE.o.gcb HNE.o.bcb);have HM := hid (HM.o.a1c he HNE.o.gxb);have HV := hid (a1F HV.o he);have HR := hid (HR.o.trans he);have HE := hid (HE.o.andM he HNE.o.b2);have HZ := hid (HZ.o.a1c he HBZ.o);clear he
     go_wp2_with fail
     refine (a1Z _ _ L1 wt HUT.o HO1.o).mono ?_;rintro e wu ⟨rfl, he⟩;have HO2 := hid (HO2.o.ext he);have HN := hid (HN.o.ext he);have HC := hid (HC.o.ext he);have HM := hid (HM.o.ext he);have HV := hid (HV.o.ext he);have HR := hid (HR.o.trans (ExtM.of he));have HE := hid (HE.o.trans he);have HZ := hid (HZ.o.ext he);clear he;have HV := hid HO2.o
     go_wp2_with fail
     refine (a0L wu p b 2 u9 (l, out) L2 HN.o (by have := HK2.o; omega)).mono ?_
     rintro e wq ⟨uq, rfl, hq, he⟩;obtain ⟨Aq, cq, rfl⟩ := hq.re.form;obtain ⟨Av, cv, hvf⟩ := HV.o.form;have HQ := hid hq.re;clear hq;have HN := hid (HN.o.ext he);have HC := hid (HC.o.ext he);have HM := hid (HM.o.ext he);have HV := hid (HV.o.ext he);have HR := hid (HR.o.trans (ExtM.of he));have HE := hid (HE.o.trans he);clear he
     go_wp2_with fail
     refine (a1Z _ _ L2 wq HQ.o HV.o).mono ?_;rintro e wr2 ⟨rfl, he⟩;have HN := hid (HN.o.ext he);have HC := hid (HC.o.ext he);have HM := hid (HM.o.ext he);have HV := hid (HV.o.ext he);have HR := hid (HR.o.trans (ExtM.of he));have HE := hid (HE.o.trans he);clear he
     go_wp2
     exact ⟨⟨i + 1, L2, C, HLT.o, by go_num, HV.o, HN.o, HC.o, HM.o, HK2.o, (Nat.le_succ_of_le HCL.o), HR.o, HE.o⟩, by have := HLT.o; simp [intOf]; omega⟩
   by_cases hk3 : kd = 3
   . subst hk3
     have HAD := hid (fun W h => b3s W gc bc C h ((a1, a2), a3, a4) a5)
     have HRA := hid (fun W h => b55 W gx C h (by have := HCL.o; have := HI9.o; omega) ((a1, a2), a3, a4) a5)
     have HC2 := hid (show (Cnt.add C ((a1, a2), a3, a4) a5).1.length <= i + 1 from by have := Cnt.b6R C ((a1, a2), a3, a4) a5; have := HCL.o; omega)
     generalize (Cnt.add C ((a1, a2), a3, a4) a5).1 = C2 at *;generalize (Cnt.add C ((a1, a2), a3, a4) a5).2 = q at *;clear hk1 hk2
     go_wp2
     refine a1i [186, 206] [] Ext (ExtD bc gx) (fun w => CM w gc bc C ∧ XM w gx C) (by kernel_rfl) (by rfl) (by rfl) (by kernel_rfl) (by kernel_rfl) (by kernel_rfl) (fun _ _ _ x y => x.trans y) (ExtD.refl bc gx) (fun _ _ x => ExtD.of x) (Ext.refl _).drew (fun _ _ x y => ⟨x.1.ext y, x.2.ext y⟩) (⟨HC.o, HM.o⟩) ?_
     refine ya ?_;refine yl2 y1 y2 ?_;refine ya ?_;refine yl2 y3 y4 ?_;refine ya ?_;refine yl1 y5 ?_;refine b1p (fun v _ => v = .int .i64 q) (fun w => CM w gc bc C2 ∧ XM w gx C) rfl (a03 rfl) rfl a0g (fun _ _ x y => ⟨x.1.ext y, x.2.ext y⟩) ?_ ?_
     . intro a w' hR hS h1 h2 h3 h4 K hK
       have e1 : _ = _ := h1;have e2 : _ = _ := h2;have e3 : _ = _ := h3;have e4 : _ = _ := h4;go_simp;refine (HAD.o w' hS.1).mono ?_;rintro e w2 ⟨rfl, hc, he⟩;exact hK _ _ (ExtD.ofM he) ⟨hc, hS.2.a1c he HNE.o.gxbc⟩ rfl
     refine ya ?_;refine yl2 y1 y2 ?_;refine ya ?_;refine yl2 y3 y4 ?_;refine ya ?_;refine yl1 y5 ?_;refine b1p (fun v _ => v = .int .i64 q) (fun w => CM w gc bc C2 ∧ XM w gx C2) rfl (a03 rfl) rfl a0g (fun _ _ x y => ⟨x.1.ext y, x.2.ext y⟩) ?_ ?_
     . intro a w' hR hS h1 h2 h3 h4 K hK
       have e1 : _ = _ := h1;have e2 : _ = _ := h2;have e3 : _ = _ := h3;have e4 : _ = _ := h4;go_simp;refine (HRA.o w' hS.2).mono ?_;rintro e w2 ⟨rfl, hc, he⟩;exact hK _ _ (ExtD.ofG he) ⟨hS.1.a5P he HNE.o.gcx HNE.o.bcx, hc⟩ rfl
     refine a0j rfl rfl (a03 rfl) Ext.refl rfl ?_; apply Exists.intro; refine ⟨?_, ?_⟩
     . intro a w' hR h1 h2
       have e1 : _ = _ := h1;have e2 : _ = _ := h2;have hq9 : (q != q) = false := by simp
       go_simp;rfl
     refine ya ?_;refine a01 ?_;intro wc he hS
     iterate 41 (rintro _ rfl)
     dsimp only [a0y];go_simp;have he : ExtD bc gx wb wc := he;clear y0 y1 y2 y3 y4 y5;have HC := hid hS.1;have HM := hid hS.2;have HR := hid (ExtM.andD HR.o he HNE.o.bc3 HNE.o.gx3);have HN := hid (HN.o.moved HN3.o HR.o (he.block p HN.o.lt.1 HNE.o.pbc HNE.o.pgx) (he.block b HN.o.lt.2 HNE.o.bbc HNE.o.bgx));have HV := hid (b7h intsK HV.o he);have HE := hid (b57 HE.o he HNE.o.bc2 HNE.o.gx2);clear hS he
     go_wp2_with fail
     refine (a0L wc p b 2 u9 (l, out) K HN.o (by have := (Nat.le_succ_of_le HKL.o); omega)).mono ?_
     rintro e wq ⟨uq, rfl, hq, he⟩;obtain ⟨Aq, cq, rfl⟩ := hq.re.form;obtain ⟨Av, cv, hvf⟩ := HV.o.form;have HQ := hid hq.re;clear hq;have HN := hid (HN.o.ext he);have HC := hid (HC.o.ext he);have HM := hid (HM.o.ext he);have HV := hid (HV.o.ext he);have HR := hid (HR.o.trans (ExtM.of he));have HE := hid (HE.o.trans he);clear he
     go_wp2_with fail
     refine (a1Z _ _ K wq HQ.o HV.o).mono ?_;rintro e wr2 ⟨rfl, he⟩;have HN := hid (HN.o.ext he);have HC := hid (HC.o.ext he);have HM := hid (HM.o.ext he);have HV := hid (HV.o.ext he);have HR := hid (HR.o.trans (ExtM.of he));have HE := hid (HE.o.trans he);clear he
     go_wp2
     exact ⟨⟨i + 1, K, C2, HLT.o, by go_num, HV.o, HN.o, HC.o, HM.o, (Nat.le_succ_of_le HKL.o), HC2.o, HR.o, HE.o⟩, by have := HLT.o; simp [intOf]; omega⟩
   have k1n : (kd == 1) = false := by simpa using hk1
   have k2n : (kd == 2) = false := by simpa using hk2
   have k3n : (kd == 3) = false := by simpa using hk3
   clear hk1 hk2 hk3 y1 y2 y3 y4 y5
   go_wp2_with fail
   refine (a0L wb p b 2 u9 (l, out) K HN.o (by have := (Nat.le_succ_of_le HKL.o); omega)).mono ?_
   rintro e wq ⟨uq, rfl, hq, he⟩;obtain ⟨Aq, cq, rfl⟩ := hq.re.form;obtain ⟨Av, cv, hvf⟩ := HV.o.form;have HQ := hid hq.re;clear hq;have HN := hid (HN.o.ext he);have HC := hid (HC.o.ext he);have HM := hid (HM.o.ext he);have HV := hid (HV.o.ext he);have HR := hid (HR.o.trans (ExtM.of he));have HE := hid (HE.o.trans he);clear he
   go_wp2_with fail
   refine (a1Z _ _ K wq HQ.o HV.o).mono ?_;rintro e wr2 ⟨rfl, he⟩;have HN := hid (HN.o.ext he);have HC := hid (HC.o.ext he);have HM := hid (HM.o.ext he);have HV := hid (HV.o.ext he);have HR := hid (HR.o.trans (ExtM.of he));have HE := hid (HE.o.trans he);clear he
   go_wp2
   exact ⟨⟨i + 1, K, C, HLT.o, by go_num, HV.o, HN.o, HC.o, HM.o, (Nat.le_succ_of_le HKL.o), (Nat.le_succ_of_le HCL.o), HR.o, HE.o⟩, by have := HLT.o; simp [intOf]; omega⟩
 have r1 : ¬ (i : Int) < (O.length : Int) := by omega
 have r1n := hlt;have HX := hid (HX.o.trans HE.o);clear hlt hi
 go_wp2
 go_ret
 exact ⟨rfl, HX.o⟩
theorem a5X (w : World) (v : Value) (x : GArg) (hv : v = gAg x.1.1 x.2.2 ∧ a00 x.1.2 w x.1.1 x.2.1) (u : Value) (O : List FOp) (hu : RE w u O) :
 Calls Tryz.prog 5 #[v, u] w fun e w' => e = .returned (.bool true) ∧ Ext w w' := by
 obtain ⟨rfl, h⟩ := hv
 cases hok : gOk x.2 with
 | true => exact a7k x.1.2 x.1.1 x.2 u O w h hu hok
 | false => exact a5W x.1.2 x.1.1 x.2 u O w h hu hok
end Go.Proofs.YtdkejfjcchlnpaaGreat
