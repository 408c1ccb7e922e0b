/-
  Fr4, Fr9, CntMore, Fr12, FrStay, packed: what the claim needs of them.
-/
import Derived.Test.YtdkejfjcchlnpaaGreatFs42
set_option maxHeartbeats 40000000
open Go.Lib (hid)
set_option linter.unusedSimpArgs false
set_option linter.unusedVariables false
set_option maxRecDepth 100000
namespace Go.Ox.Fr
open Go.Ox.Gr Go.Ox.Pl Go.Proofs.YtdkejfjcchlnpaaGreat Go.Proofs.YtdkejfjcchlnpaaGreat.Mo
def b7n (g : G) (q : P2) (m : Mom.M) : Bool := gOk g && ((gNd g q).isSome && Mom.ok m)
end Go.Ox.Fr
namespace Go.Proofs.YtdkejfjcchlnpaaGreat
open Go.RowKit Go.Ox Go.Ox.Gr Mo Ct
attribute [local irreducible] RE OE a00
theorem b5g (d : Nat) (v : Value) (g : G) (q : Pl.P2) (m : Mom.M) (w : World) (hv : a00 d w v g.1) :
 Calls Tryz.prog 8 #[gAg v g.2, plV q, mV m] w fun e w' => e = .returned (.bool (Fr.b7n g q m)) ∧ Ext w w' := by
 have HCK := hid (fun W (h : Ext w W) => b1i d v g.1 g.2 W (hv.ext h))
 have HPC := hid (fun (hok : gOk g = true) W (h : Ext w W) => a6C d v g q W (hv.ext h) hok)
 have HCM := hid (fun W => Mo.a0y m W)
 have HMB := hid (show Fr.b7n g q m = (gOk g && ((gNd g q).isSome && Mom.ok m)) from rfl);obtain ⟨l, out⟩ := g;simp only at HCK hv;generalize Fr.b7n (l, out) q m = R at *;generalize (gNd (l, out) q).isSome = sq at *;generalize gOk (l, out) = ok at *;generalize Mom.ok m = om at *;obtain ⟨A, c, rfl⟩ := hv.form;obtain ⟨q1, q2⟩ := q;obtain ⟨m1, m2⟩ := m;have HX := hid (show Ext w (((w.alloc (.cells #[.slice A l.length c, .int .i64 out] 24)).alloc (.cells #[.int .i64 q1, .int .i64 q2] 27)).alloc (.cells #[.int .i64 m1, .int .i64 m2] 29)) from a0l [(#[.slice A l.length c, .int .i64 out], 24), (#[.int .i64 q1, .int .i64 q2], 27), (#[.int .i64 m1, .int .i64 m2], 29)] w);have HB0 := hid (show Blk (((w.alloc (.cells #[.slice A l.length c, .int .i64 out] 24)).alloc (.cells #[.int .i64 q1, .int .i64 q2] 27)).alloc (.cells #[.int .i64 m1, .int .i64 m2] 29)) (w.heap.size) 24 #[.slice A l.length c, .int .i64 out] from a07 [(#[.slice A l.length c, .int .i64 out], 24), (#[.int .i64 q1, .int .i64 q2], 27), (#[.int .i64 m1, .int .i64 m2], 29)] w 0 _ _ rfl);have HB1 := hid (show Blk (((w.alloc (.cells #[.slice A l.length c, .int .i64 out] 24)).alloc (.cells #[.int .i64 q1, .int .i64 q2] 27)).alloc (.cells #[.int .i64 m1, .int .i64 m2] 29)) (w.heap.size + 1) 27 #[.int .i64 q1, .int .i64 q2] from a07 [(#[.slice A l.length c, .int .i64 out], 24), (#[.int .i64 q1, .int .i64 q2], 27), (#[.int .i64 m1, .int .i64 m2], 29)] w 1 _ _ rfl);have HB2 := hid (show Blk (((w.alloc (.cells #[.slice A l.length c, .int .i64 out] 24)).alloc (.cells #[.int .i64 q1, .int .i64 q2] 27)).alloc (.cells #[.int .i64 m1, .int .i64 m2] 29)) (w.heap.size + 1 + 1) 29 #[.int .i64 m1, .int .i64 m2] from a07 [(#[.slice A l.length c, .int .i64 out], 24), (#[.int .i64 q1, .int .i64 q2], 27), (#[.int .i64 m1, .int .i64 m2], 29)] w 2 _ _ rfl);clear hv
 go_enter Tryz.func8, Tryz.ntmps8
 go_upto_region 1 with fail
 generalize w.heap.size = bn at *;generalize ((w.alloc (.cells #[.slice A l.length c, .int .i64 out] 24)).alloc (.cells #[.int .i64 q1, .int .i64 q2] 27)).alloc (.cells #[.int .i64 m1, .int .i64 m2] 29) = w0 at *;have c00 := HB0.o.c0;have c01 := HB0.o.c1;have c10 := HB1.o.c0;have c11 := HB1.o.c1;have c20 := HB2.o.c0;have c21 := HB2.o.c1
 go_wp2_with fail
 refine (HCK.o w0 HX.o).mono ?_;rintro e w1 ⟨rfl, he⟩;clear c00 c01 c10 c11 c20 c21;have HX := hid (HX.o.trans he);have HB0 := hid (HB0.o.ext he);have HB1 := hid (HB1.o.ext he);have HB2 := hid (HB2.o.ext he);clear he
 cases ok with
 | false =>
  have HR := hid (show R = false from HMB.o)
  go_wp2
  go_ret
  exact ⟨by rw [HR.o]; rfl, HX.o⟩
 | true =>
 have c00 := HB0.o.c0;have c01 := HB0.o.c1;have c10 := HB1.o.c0;have c11 := HB1.o.c1;have c20 := HB2.o.c0;have c21 := HB2.o.c1
 go_wp2_with fail
 refine (HPC.o (by first | rfl | trivial) w1 HX.o).mono ?_
 rintro e w2 ⟨rfl, he⟩;clear c00 c01 c10 c11 c20 c21;have HX := hid (HX.o.trans he);have HB0 := hid (HB0.o.ext he);have HB1 := hid (HB1.o.ext he);have HB2 := hid (HB2.o.ext he);clear he
 cases sq with
 | false =>
  have HR := hid (show R = false from HMB.o)
  go_wp2
  go_ret
  exact ⟨by rw [HR.o]; rfl, HX.o⟩
 | true =>
 have c00 := HB0.o.c0;have c01 := HB0.o.c1;have c10 := HB1.o.c0;have c11 := HB1.o.c1;have c20 := HB2.o.c0;have c21 := HB2.o.c1
 go_wp2_with fail
 refine (HCM.o w2).mono ?_;rintro e w3 ⟨rfl, he⟩;clear c00 c01 c10 c11 c20 c21;have HX := hid (HX.o.trans he);have HB0 := hid (HB0.o.ext he);have HB1 := hid (HB1.o.ext he);have HB2 := hid (HB2.o.ext he);clear he;have HR := hid (show R = om from HMB.o)
 go_wp2
 go_ret
 exact ⟨by rw [HR.o]; rfl, HX.o⟩
end Go.Proofs.YtdkejfjcchlnpaaGreat
namespace Go.Ox.Fr
open Go.Ox.Gr Go.Ox.Pl
def a5M (g : G) (m : Nat) : Bool := (a2m 4 g.1 || decide (16 < (a0a g.1).length)) || decide (20 < m)
theorem b0g {g : G} {m : Nat} (h : a5M g m = false) : Pl.a5M g = false ∧ m ≤ 20 := by
 unfold a5M at h;rw [Bool.or_eq_false_iff, Bool.or_eq_false_iff, decide_eq_false_iff_not, decide_eq_false_iff_not] at h;refine ⟨?_, by omega⟩
 show (a2m 4 g.1 || decide (20 < (a0a g.1).length)) = false;rw [h.1.1, decide_eq_false (by omega)]
 rfl
end Go.Ox.Fr
namespace Go.Proofs.YtdkejfjcchlnpaaGreat
open Go.RowKit Go.Ox Go.Ox.Gr Mo Ct
attribute [local irreducible] RE OE a00
theorem a9p (d : Nat) (v : Value) (g : G) (B : Option Addr) (m k : Nat) (w : World) (hv : a00 d w v g.1) :
 Calls Tryz.prog 7 #[gAg v g.2, .slice B m k] w fun e w' => e = .returned (.bool (Fr.a5M g m)) ∧ Ext w w' := by
 obtain ⟨l, out⟩ := g;have HD := hid (fun W (h : Ext w W) => b4C 4 0 d v l W (by omega) (by omega) (hv.ext h))
 have HPL := hid (fun (h : a2m 4 l = false) W (hW : Ext w W) => a0S d v l out W (hv.ext hW) (by have := (a8Y h).1; omega) (fun n hn => by have := b2q h hn; omega))
 have HLG := hid (show Fr.a5M (l, out) m = ((a2m 4 l || decide (16 < (a0a l).length)) || decide (20 < m)) from rfl);simp only at hv;generalize Fr.a5M (l, out) m = LG at *;generalize a0a l = pls at *;obtain ⟨A, c, rfl⟩ := hv.form;have HX0 := hid ((Ext.refl w).alloc (gCs (.slice A l.length c) out));have HB0 := hid (Blk.new w 24 #[.slice A l.length c, .int .i64 out]);clear hv
 go_enter Tryz.func7, Tryz.ntmps7
 go_upto_region 1 with fail
 generalize w.heap.size = p at *;generalize w.alloc (gCs (.slice A l.length c) out) = w0 at *;have c0 := HB0.o.c0;have c1 := HB0.o.c1;obtain ⟨db, hdb⟩ : ∃ db, a2m 4 l = db := ⟨_, rfl⟩;rw [hdb] at HD HPL HLG
 cases db with
 | true =>
  go_wp2_with fail
  refine (HD.o w0 HX0.o).mono ?_;rintro e w' ⟨rfl, rfl⟩
  go_wp2
  go_ret
  exact ⟨by rw [HLG.o]; rfl, HX0.o⟩
 | false =>
 go_wp2_with fail
 refine (HD.o w0 HX0.o).mono ?_;rintro e w' ⟨rfl, rfl⟩
 go_wp2_with fail
 refine (HPL.o (by trivial) w0 HX0.o).mono ?_
 rintro e w1 ⟨u, rfl, hu, he⟩;obtain ⟨A1, k1, rfl⟩ := hu.re.form;have HX1 := hid (HX0.o.trans he);clear hu he c0 c1
 by_cases h20 : 16 < pls.length
 · have g2 : (16 : Int) < (pls.length : Int) := by omega
   have HR := hid (show LG = true from by rw [HLG.o, decide_eq_true h20]; rfl)
   clear h20
   go_wp2
   go_ret
   exact ⟨by rw [HR.o]; first | rfl | (simp; omega), HX1.o⟩
 have g2 : ¬ (16 : Int) < (pls.length : Int) := by omega
 by_cases h21 : 20 < m
 · have g3 : (20 : Int) < (m : Int) := by omega
   have HR := hid (show LG = true from by rw [HLG.o, decide_eq_true h21]; simp)
   clear h20 h21
   go_wp2
   go_ret
   exact ⟨by rw [HR.o]; first | rfl | (simp; omega), HX1.o⟩
 have g3 : ¬ (20 : Int) < (m : Int) := by omega
 have HR := hid (show LG = false from by rw [HLG.o, decide_eq_false h20, decide_eq_false h21]; rfl)
 clear h20 h21
 go_wp2
 go_ret
 exact ⟨by rw [HR.o]; first | rfl | (simp; omega), HX1.o⟩
end Go.Proofs.YtdkejfjcchlnpaaGreat
namespace Go.Proofs.YtdkejfjcchlnpaaGreat.Ct
open Go.RowKit Go.Ox Go.Shelf Mo
def a9q (L : List Cnt.S) (l : List Cnt.S) : List Cnt.S := l.foldl (fun L x => (Cnt.add L x.1 x.2).1) L
theorem adds_s (L l : List Cnt.S) (k : Nat) (h : k < l.length) : a9q L (l.take (k + 1)) = (Cnt.add (a9q L (l.take k)) l[k].1 l[k].2).1 := by
 unfold a9q;rw [List.take_succ_eq_append_getElem h, List.foldl_append]; rfl
theorem b5N (l : List Cnt.S) : a9q [] (l.take 0) = [] := rfl
theorem a7k : ∀ (l L : List Cnt.S), (a9q L l).length ≤ L.length + l.length
 | [], L => by simp [a9q]
 | x :: l, L => by
  have h1 := a7k l (Cnt.add L x.1 x.2).1;have h2 := Cnt.b34 L x.1 x.2;unfold a9q at *;rw [List.foldl_cons, List.length_cons]; omega
theorem CM.a5Q {w w' : World} {g b g' : Nat} {L : List Cnt.S} (h : CM w g b L) (he : ExtG g' w w') (h1 : g ≠ g') (h2 : b ≠ g') : CM w' g b L := by
 obtain ⟨l, h3, h4⟩ := h.map;exact ⟨h.box.a5Q he h1, h.ne, ⟨l, h3.at_ (he.grown.block b h3.lt (fun e => h2 (by injection e))), h4⟩, h.good⟩
section
variable {b g : Nat} {w w' a c d : World}
end
end Go.Proofs.YtdkejfjcchlnpaaGreat.Ct
namespace Go.Proofs.YtdkejfjcchlnpaaGreat
open Go.RowKit Go.Ox Go.Ox.Gr Go.Shelf Mo Ct
attribute [local irreducible] RE OE a00 a9q
theorem a8r (v : Value) (l : List Cnt.S) (w : World) (hv : RE w v l) (hl : l.length ≤ 1000) :
 Calls Tryz.prog 10 #[v] w fun e w' => ∃ g b u, e = .returned (.tuple #[.pointer (some ⟨g, 0, none⟩), u]) ∧ w.heap.size ≤ g ∧ w.heap.size ≤ b ∧ CM w' g b (a9q [] l) ∧ RE w' u (a9q [] l) ∧ Ext w w' := by
 obtain ⟨A, c, rfl⟩ := hv.form;have HV := hid hv;have HLL := hid hl;have hlb : l.length ≤ 9223372036854775807 := by omega
 clear hv hl
 go_enter Tryz.func10, Tryz.ntmps10
 go_wp2_with fail
 refine (b35 _).mono ?_;rintro e w1 ⟨g, b, rfl, hg1, hb1, hc, hx1⟩;have hbx := Blk.new w1 61 #[.slice none 0 0];have hx2 : Ext w1 (w1.alloc (.cells #[.slice none 0 0] 61)) := (Ext.refl _).alloc _;have hxm : XM (w1.alloc (.cells #[.slice none 0 0] 61)) w1.heap.size [] := ⟨⟨_, hbx, RE.a2M _⟩, Cnt.b0a⟩;have HC2 := hid (hc.ext hx2);have HXM2 := hid hxm;have HX2 := hid (hx1.trans hx2);have hlt := hc.lt;have HNE := hid (show g ≠ w1.heap.size ∧ b ≠ w1.heap.size by omega)
 have HGB := hid (show w.heap.size ≤ g ∧ w.heap.size ≤ b from ⟨hg1, hb1⟩);have HGX := hid (show w.heap.size ≤ w1.heap.size from hx1.size);clear hbx hx2 hxm hc hx1 hg1 hb1 hlt
 go_wp2
 generalize (w1.alloc (.cells #[.slice none 0 0] 61)) = w2 at *;generalize w1.heap.size = gx at *
 go_loopw [6] (fun iv wr => ∃ k : Nat, k ≤ l.length ∧ iv = .int .i64 k ∧ CM wr g b (a9q [] (l.take k)) ∧ XM wr gx (a9q [] (l.take k)) ∧ Ext w wr) (fun iv _ => l.length - (intOf iv).toNat)
 case atStart => exact ⟨0, Nat.zero_le _, rfl, by rw [b5N]; exact HC2.o, by rw [b5N]; exact HXM2.o, HX2.o⟩
 case round =>
 obtain ⟨k, hk, rfl, hc, hxm, hext⟩ := hrel;rename World => wA
 have HC := hid hc;have HXM := hid hxm;have HW := hid hext;have hk9 : k ≤ 1000 := by have := HLL.o; omega
 by_cases hlt : k < l.length
 · have g1 : (k : Int) < (l.length : Int) := by omega
   have g0 : 0 ≤ (k : Int) := by omega
   obtain ⟨bA, oA, rfl, c0, c1, c2, c3, c4⟩ := re5 (HV.o.ext HW.o) hlt;have HS := hid (adds_s [] l k hlt);have HRE := hid (HV.o.ext HW.o);have hln := a7k (l.take k) [];rw [List.length_nil, Nat.zero_add, List.length_take, Nat.min_eq_left hk] at hln;generalize a9q [] (l.take k) = L at *;obtain ⟨y, hy⟩ : ∃ y, l[k] = y := ⟨_, rfl⟩;have HY := hid hy;rw [hy] at HS c0 c1 c2 c3 c4;obtain ⟨⟨⟨y1, y2⟩, y3, y4⟩, y5⟩ := y;dsimp only at HS c0 c1 c2 c3 c4;have HA := hid (fun w h => a9l w g b L h ((y1, y2), y3, y4) y5)
   have HRA := hid (fun w h => b5c w gx L h (by omega) ((y1, y2), y3, y4) y5)
   generalize (Cnt.add L ((y1, y2), y3, y4) y5).1 = M at *;generalize (Cnt.add L ((y1, y2), y3, y4) y5).2 = q at *;clear hc hxm hext hy hln;have HCELL := hid (And.intro c0 (And.intro c1 (And.intro c2 (And.intro c3 c4))))
   go_wp2
   refine a13 [32] [] Ext (ExtM b) (fun w => CM w g b L) (by kernel_rfl) (by rfl) (by rfl) (by kernel_rfl) (by kernel_rfl) (by kernel_rfl) (fun _ _ _ x y => x.trans y) (ExtM.refl b) (fun _ _ x => ExtM.of x) (Ext.refl _).drew (fun _ _ x y => x.ext y) (HC.o) ?_
   refine ya ?_;refine yl2 c0 c1 ?_;refine ya ?_;refine yl2 c2 c3 ?_;refine ya ?_;refine yl1 c4 ?_;refine b1s (fun v _ => v = .int .i64 q) (fun w => CM w g b M) rfl (a05 rfl) rfl a0j (fun _ _ x y => x.ext y) ?_ ?_
   · intro a w' hR hS h1 h2 h3 h4 K hK
     have e1 : _ = _ := h1;have e2 : _ = _ := h2;have e3 : _ = _ := h3;have e4 : _ = _ := h4;go_simp;refine (HA.o w' hS).mono ?_;rintro e w2 ⟨rfl, hc, he⟩;exact hK _ _ he hc rfl
   refine ya ?_;refine a02 ?_;intro w4 he4 hc4
   iterate 17 (rintro _ rfl)
   dsimp only [a0B];go_simp;have he4 : ExtM b wA w4 := he4;clear c0 c1 c2 c3 c4;obtain ⟨c0, c1, c2, c3, c4⟩ := HCELL.o;have c0 := he4.cells _ _ c0;have c1 := he4.cells _ _ c1;have c2 := he4.cells _ _ c2;have c3 := he4.cells _ _ c3;have c4 := he4.cells _ _ c4;have HX4 := hid (HXM.o.a2a he4 (Ne.symm HNE.o.2));have HW4 := hid (HW.o.andM he4 HGB.o.2);have HC4 := hid hc4;clear hc4 he4
   go_wp2
   refine a13 [49] [] Ext (ExtG gx) (fun w => XM w gx L) (by kernel_rfl) (by rfl) (by rfl) (by kernel_rfl) (by kernel_rfl) (by kernel_rfl) (fun _ _ _ x y => x.trans y) (ExtG.refl gx) (fun _ _ x => ExtG.of x) (Ext.refl _).drew (fun _ _ x y => x.ext y) (HX4.o) ?_
   refine ya ?_;refine yl2 c0 c1 ?_;refine ya ?_;refine yl2 c2 c3 ?_;refine ya ?_;refine yl1 c4 ?_;refine b1s (fun v _ => v = .int .i64 q) (fun w => XM w gx M) rfl (a05 rfl) rfl a0j (fun _ _ x y => x.ext y) ?_ ?_
   · intro a w' hR hS h1 h2 h3 h4 K hK
     have e1 : _ = _ := h1;have e2 : _ = _ := h2;have e3 : _ = _ := h3;have e4 : _ = _ := h4;go_simp;refine (HRA.o w' hS).mono ?_;rintro e w2 ⟨rfl, hc, he⟩;exact hK _ _ he hc rfl
   refine ya ?_;refine a02 ?_;intro w5 he5 hx5
   iterate 17 (rintro _ rfl)
   dsimp only [a0B];go_simp;have he5 : ExtG gx w4 w5 := he5;have HC5 := hid (HC4.o.a5Q he5 HNE.o.1 HNE.o.2);have HW5 := hid (HW4.o.andG he5 HGX.o);have HX5 := hid hx5;clear hx5 he5 c0 c1 c2 c3 c4
   go_wp2
   exact ⟨⟨k + 1, by omega, by go_num, by rw [HS.o]; exact HC5.o, by rw [HS.o]; exact HX5.o, HW5.o⟩, by simp [intOf]; omega⟩
 have g1 : ¬ (k : Int) < (l.length : Int) := by omega
 obtain rfl : k = l.length := by omega
 rw [List.take_length] at HC HXM;obtain ⟨vx, hbx, hrx⟩ := hxm.row;rw [List.take_length] at hrx;have cx := hbx.c0;have HRX := hid hrx;obtain ⟨AX, cX, rfl⟩ := hrx.form;clear hc hxm hext hbx hrx
 go_wp2
 refine yx ?_;refine ya ?_;refine yl1 cx ?_;refine ya ?_;refine a02 ?_;intro w5 he5 hS5
 iterate 7 (rintro _ rfl)
 dsimp only [a0B];go_simp;have he5 : Ext wA w5 := he5
 go_wp2
 go_ret2
 exact ⟨g, b, _, rfl, HGB.o.1, HGB.o.2, HC.o.ext he5, HRX.o.ext he5, HW.o.trans he5⟩
end Go.Proofs.YtdkejfjcchlnpaaGreat
namespace Go.Ox.Fr
open Go.Ox.Gr Go.Ox.Pl Go.Proofs.YtdkejfjcchlnpaaGreat Go.Proofs.YtdkejfjcchlnpaaGreat.Mo
theorem a8s {g : G} {L : List Cnt.S} {q : P2} {m : Mom.M} (hm : Mom.ok m = true) : Mom.a1B (comes g L q no) m = L.any fun s => a0W g s.1.1 s.1.2 q m := by
 rw [Bool.eq_iff_iff];unfold Mom.a1B comes;rw [List.any_eq_true, List.any_eq_true];constructor
 · rintro ⟨x, hx, ha⟩
   obtain ⟨s, hs, h⟩ := List.mem_filterMap.1 hx;refine ⟨s, hs, ?_⟩;unfold cmB no at h;rw [if_neg (by simp)] at h
   unfold cm1 at h;unfold a0W
   cases hw : a6z g s.1.1 q with
   | none => rw [hw] at h; cases h
   | some y =>
   rw [hw] at h;simp only [Option.bind_some] at h;unfold a3o
   split at h
   · rename_i h0
     injection h with h
     simp only [hm, h0, decide_true, Bool.true_and];rw [h]; exact ha
   cases h
 rintro ⟨s, hs, h⟩;unfold a0W a3o at h
 cases hw : a6z g s.1.1 q with
 | none => rw [hw] at h; cases h
 | some y =>
 rw [hw] at h;simp only [Bool.and_eq_true, decide_eq_true_eq] at h;refine ⟨(a11 y s.1.2).1, List.mem_filterMap.2 ⟨s, hs, ?_⟩, h.2.2⟩;unfold cmB no cm1;rw [if_neg (by simp), hw]
 simp only [Option.bind_some];rw [if_pos h.2.1]
theorem b1j {g : G} {L : List Cnt.S} {q : P2} {m : Mom.M} : a1f g L q m = true ↔ (may g q = 0 ∧ Mom.ok m = true) ∧ ∀ s ∈ L, a0W g s.1.1 s.1.2 q m = false := by
 unfold a1f
 by_cases h : may g q = 0 ∧ Mom.ok m = true
 · rw [if_pos h, a8s h.2, Bool.not_eq_true', List.any_eq_false]
   simp only [Bool.not_eq_true];exact ⟨fun k => ⟨h, k⟩, fun k => k.2⟩
 rw [if_neg h];constructor
 · intro k; cases k
 intro k; exact absurd k.1 h
theorem b7o {L : List Cnt.S} (hg : Cnt.Good L) {k : Cnt.K} {n : Int} {s : Cnt.S} (h : s ∈ (Cnt.add L k n).1) : (∃ t ∈ L, t.1 = s.1) ∨ (s.1 = k ∧ 0 < n) := by
 unfold Cnt.add at h
 split at h
 · exact .inl ⟨s, h, rfl⟩
 split at h
 · exact .inl ⟨s, h, rfl⟩
 rename_i h1 h2
 rcases ((Cnt.a5G hg.1 (k, Cnt.was L k + n)).2 s).1 h with ⟨h3, _⟩ | ⟨h3, rfl⟩
 · exact .inl ⟨s, h3, rfl⟩
 by_cases hn : 0 < n
 · exact .inr ⟨rfl, hn⟩
 rcases Cnt.a8k hg k with ⟨x, hx, _⟩ | ⟨_, hx⟩
 · exact .inl ⟨(k, x), hx, rfl⟩
 simp only at h3; omega
def led (g : G) (L : List Cnt.S) (k : Cnt.K) : Bool := L.any fun s => a0W g s.1.1 s.1.2 k.1 k.2
theorem b1k {g : G} {L : List Cnt.S} {q : P2} {m : Mom.M} (hn : (gPl g).length ≤ 20) (hg : Cnt.Good L) {k : Cnt.K} {n : Int} (hk : ¬ 0 < n ∨ led g L k = true) (h : a1f g L q m = true) : a1f g (Cnt.add L k n).1 q m = true := by
 rw [b1j] at h ⊢;refine ⟨h.1, fun s hs => ?_⟩
 rcases b7o hg hs with ⟨t, ht, he⟩ | ⟨he, h0⟩
 · rw [← he]; exact h.2 t ht
 rcases hk with hk | hk
 · exact absurd h0 hk
 unfold led at hk;obtain ⟨t, ht, hl⟩ := List.any_eq_true.1 hk
 cases hq : a0W g s.1.1 s.1.2 q m with
 | false => rfl
 | true =>
 rw [he] at hq;have := a9n hn hl hq;rw [h.2 t ht] at this
 cases this
theorem b1l {g : G} {L : List Cnt.S} {q : P2} {m : Mom.M} (h : a1f g L q m = true) : due g L q m = true := by
 unfold a1f at h;unfold due
 split at h
 · rename_i h0
   rw [if_pos h0];rw [Bool.not_eq_true'] at h ⊢;unfold Mom.a1B at *;rw [List.any_eq_false] at h ⊢;intro x hx;refine h x ?_;unfold comes at *;obtain ⟨s, hs, hc⟩ := List.mem_filterMap.1 hx;refine List.mem_filterMap.2 ⟨s, hs, ?_⟩;unfold cmB at *;unfold no;rw [if_neg (by simp)]
   split at hc
   · cases hc
   exact hc
 cases h
end Go.Ox.Fr
