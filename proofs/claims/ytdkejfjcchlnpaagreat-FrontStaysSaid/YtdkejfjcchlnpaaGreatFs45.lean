/-
  FrStaysL, CntArgs, MomArgs, packed: what the claim needs of them.
-/
import Derived.Test.YtdkejfjcchlnpaaGreatFs44
set_option maxHeartbeats 40000000
open Go.Lib (hid)
set_option linter.unusedSimpArgs false
set_option linter.unusedVariables false
set_option maxRecDepth 100000
namespace Go.Ox.Fr
open Go.Ox.Gr Go.Ox.Pl Go.Proofs.YtdkejfjcchlnpaaGreat Go.Proofs.YtdkejfjcchlnpaaGreat.Mo
theorem b7p {g : G} {q : P2} {m : Mom.M} (h : b7n g q m = true) : gOk g = true := by
 unfold b7n at h;rw [Bool.and_eq_true] at h;exact h.1
end Go.Ox.Fr
namespace Go.Proofs.YtdkejfjcchlnpaaGreat
open Go.RowKit Go.Ox Go.Ox.Gr Go.Shelf Mo Ct
attribute [local irreducible] RE OE a00
theorem a61 (d : Nat) (v : Value) (g : G) (u : Value) (L0 : List Cnt.S) (u2 : Value) (M0 : List Cnt.S) (q : Pl.P2) (m : Mom.M) (w : World) (hv : a00 d w v g.1) (hu : RE w u L0) (hu2 : RE w u2 M0) :
 Calls Tryz.prog 3 #[gAg v g.2, u, u2, plV q, mV m] w fun e w' => e = .returned (.bool true) ∧ Ext w w' := by
 have HLG := hid (fun B n k W (h : Ext w W) => a9p d v g B n k W (hv.ext h))
 have HFA := hid (fun n (h : Fr.a5M g n = false) => (show (gPl g).length ≤ 20 ∧ n ≤ 20 from ⟨Pl.b5f (Fr.b0g h).1, (Fr.b0g h).2⟩))
 have HMB := hid (fun W (h : Ext w W) => b5g d v g q m W (hv.ext h))
 have HOK := hid (fun (h : Fr.b7n g q m = true) => Fr.b7p h)
 have HCT := hid (fun (hl : L0.length ≤ 1000) W (h : Ext w W) => a8r u L0 W (hu.ext h) hl)
 have HPS := hid (fun (hn : (gPl g).length ≤ 20) L (hL : L.length ≤ 256) gc b W (h : Ext w W) (hc : CM W gc b L) => a3j d v g gc b L q m W (hv.ext h) hn hc hL)
 have HDU := hid (fun (hn : (gPl g).length ≤ 20) L (hL : L.length ≤ 256) gc b (hp : Fr.a1f g L q m = true) W (h : Ext w W) (hc : CM W gc b L) => (show Calls Tryz.prog 16 #[gAg v g.2, .pointer (some ⟨gc, 0, none⟩), plV q, mV m] W fun e w' => e = .returned (.bool true) ∧ Ext W w' from by
  have h9 := a9j d v g gc b L q m W (hv.ext h) hn hc hL
  rwa [Fr.b1l hp] at h9))
 have HLD := hid (fun (hok : gOk g = true) (hn : (gPl g).length ≤ 20) L (hL : L.length ≤ 256) x s W (h : Ext w W) (hx : RE W x L) => b3K d v g x L s W (hv.ext h) hok hn hx (by omega))
 have HPA := hid (fun (hn : (gPl g).length ≤ 20) L (hg : Cnt.Good L) k n hk (hp : Fr.a1f g L q m = true) => Fr.b1k (k := k) (n := n) hn hg hk hp)
 have HU2 := hid hu2;have HOF := hid (fun L gc b W (hc : CM W gc b L) => of_any W gc b L hc (q, m))
 obtain ⟨l, out⟩ := g;simp only at hv;generalize (gPl (l, out)).length = np at *;obtain ⟨A, c, rfl⟩ := hv.form;obtain ⟨AU, cU, rfl⟩ := hu.form;obtain ⟨AM, cM, rfl⟩ := hu2.form;have HLG := hid (fun W h => HLG.o AU L0.length cU W h)
 have HFA := hid (HFA.o L0.length);generalize Fr.a5M (l, out) L0.length = LG at *;obtain ⟨mb, hmb⟩ : ∃ mb, Fr.b7n (l, out) q m = mb := ⟨_, rfl⟩;rw [hmb] at HMB HOK;clear hmb;obtain ⟨q1, q2⟩ := q;obtain ⟨m1, m2⟩ := m;have HX := hid (show Ext w (((w.alloc (.cells #[.slice A l.length c, .int .i64 out] 24)).alloc (.cells #[.int .i64 q1, .int .i64 q2] 27)).alloc (.cells #[.int .i64 m1, .int .i64 m2] 29)) from a0l [(#[.slice A l.length c, .int .i64 out], 24), (#[.int .i64 q1, .int .i64 q2], 27), (#[.int .i64 m1, .int .i64 m2], 29)] w);have HB0 := hid (show Blk (((w.alloc (.cells #[.slice A l.length c, .int .i64 out] 24)).alloc (.cells #[.int .i64 q1, .int .i64 q2] 27)).alloc (.cells #[.int .i64 m1, .int .i64 m2] 29)) (w.heap.size) 24 #[.slice A l.length c, .int .i64 out] from a07 [(#[.slice A l.length c, .int .i64 out], 24), (#[.int .i64 q1, .int .i64 q2], 27), (#[.int .i64 m1, .int .i64 m2], 29)] w 0 _ _ rfl);have HB1 := hid (show Blk (((w.alloc (.cells #[.slice A l.length c, .int .i64 out] 24)).alloc (.cells #[.int .i64 q1, .int .i64 q2] 27)).alloc (.cells #[.int .i64 m1, .int .i64 m2] 29)) (w.heap.size + 1) 27 #[.int .i64 q1, .int .i64 q2] from a07 [(#[.slice A l.length c, .int .i64 out], 24), (#[.int .i64 q1, .int .i64 q2], 27), (#[.int .i64 m1, .int .i64 m2], 29)] w 1 _ _ rfl);have HB2 := hid (show Blk (((w.alloc (.cells #[.slice A l.length c, .int .i64 out] 24)).alloc (.cells #[.int .i64 q1, .int .i64 q2] 27)).alloc (.cells #[.int .i64 m1, .int .i64 m2] 29)) (w.heap.size + 1 + 1) 29 #[.int .i64 m1, .int .i64 m2] from a07 [(#[.slice A l.length c, .int .i64 out], 24), (#[.int .i64 q1, .int .i64 q2], 27), (#[.int .i64 m1, .int .i64 m2], 29)] w 2 _ _ rfl);clear hv hu hu2
 go_enter Tryz.func3, Tryz.ntmps3
 go_upto_region 1 with fail
 generalize w.heap.size = bn at *;generalize ((w.alloc (.cells #[.slice A l.length c, .int .i64 out] 24)).alloc (.cells #[.int .i64 q1, .int .i64 q2] 27)).alloc (.cells #[.int .i64 m1, .int .i64 m2] 29) = w0 at *;have c00 := HB0.o.c0;have c01 := HB0.o.c1;have c10 := HB1.o.c0;have c11 := HB1.o.c1;have c20 := HB2.o.c0;have c21 := HB2.o.c1
 go_wp2_with fail
 refine (HLG.o w0 HX.o).mono ?_;rintro e w1 ⟨rfl, he⟩;clear c00 c01 c10 c11 c20 c21;have HX := hid (HX.o.trans he);have HB0 := hid (HB0.o.ext he);have HB1 := hid (HB1.o.ext he);have HB2 := hid (HB2.o.ext he);clear he;have c00 := HB0.o.c0;have c01 := HB0.o.c1;have c10 := HB1.o.c0;have c11 := HB1.o.c1;have c20 := HB2.o.c0;have c21 := HB2.o.c1
 cases LG with
 | true =>
  go_wp2_with fail
  refine (a1T w1).mono ?_;rintro e w2 ⟨rfl, he⟩;have HX := hid (HX.o.trans he);clear he
  go_wp2
  go_ret
  exact ⟨rfl, HX.o⟩
 | false =>
 have HN := hid (HFA.o (by first | rfl | trivial))
 clear HFA HLG
 by_cases h20 : 20 < M0.length
 · have r1 : (M0.length : Int) > 20 := by omega
   have r2 : (20 : Int) < (M0.length : Int) := by omega
   go_wp2_with fail
   refine (a1T w1).mono ?_;rintro e w2 ⟨rfl, he⟩;have HX := hid (HX.o.trans he);clear he
   go_wp2
   go_ret
   exact ⟨rfl, HX.o⟩
 have r1 : ¬ (M0.length : Int) > 20 := by omega
 have r2 : ¬ (20 : Int) < (M0.length : Int) := by omega
 go_wp2_with fail
 refine (HMB.o w1 HX.o).mono ?_;rintro e w2 ⟨rfl, he⟩;clear c00 c01 c10 c11 c20 c21;have HX := hid (HX.o.trans he);have HB0 := hid (HB0.o.ext he);have HB1 := hid (HB1.o.ext he);have HB2 := hid (HB2.o.ext he);clear he
 cases mb with
 | false =>
  go_wp2_with fail
  refine (a1T w2).mono ?_;rintro e w3 ⟨rfl, he⟩;have HX := hid (HX.o.trans he);clear he
  go_wp2
  go_ret
  exact ⟨rfl, HX.o⟩
 | true =>
 have HOK9 := hid (HOK.o (by first | rfl | trivial))
 have HM20 := hid h20;clear HOK HMB h20
 go_wp2_with fail
 refine (HCT.o (by have := HN.o.2; omega) w2 HX.o).mono ?_
 rintro e w3 ⟨gc, b, us, rfl, hgc, hbb, hc, hs, he3⟩
 have HL9 := hid (show (a9q [] L0).length ≤ 20 by
  have hll := a7k L0 [];rw [List.length_nil, Nat.zero_add] at hll
  have := HN.o.2; omega)
 have HLE := hid (fun n => Nat.le_trans HL9.o (show 20 ≤ 20 + n by omega))
 have HC := hid hc;have HBB := hid hbb;have HE := hid he3;generalize a9q [] L0 = C0 at *;obtain ⟨AS, cS, rfl⟩ := hs.form;clear hc hs hgc hbb HCT r1 r2
 go_wp2_with fail
 refine (a1T w3).mono ?_;rintro e w4 ⟨rfl, he⟩;have HE := hid (HE.o.trans he);have HC := hid (HC.o.ext he);clear he he3;have c00 := (HB0.o.ext HE.o).c0;have c01 := (HB0.o.ext HE.o).c1;have c10 := (HB1.o.ext HE.o).c0;have c11 := (HB1.o.ext HE.o).c1;have c20 := (HB2.o.ext HE.o).c0;have c21 := (HB2.o.ext HE.o).c1;have HPS9 := hid (HPS.o HN.o.1 C0 (by have := HL9.o; omega) gc b)
 obtain ⟨ps, hps⟩ : ∃ ps, Fr.a1f (l, out) C0 (q1, q2) (m1, m2) = ps := ⟨_, rfl⟩;rw [hps] at HPS9;have HP := hid hps;clear hps
 go_wp2_with fail
 refine (HPS9.o w4 (HX.o.trans HE.o) HC.o).mono ?_;rintro e w5 ⟨rfl, he⟩;have HE := hid (HE.o.trans he);have HC := hid (HC.o.ext he);clear he;clear c00 c01 c10 c11 c20 c21
 cases ps with
 | false =>
  have HX := hid (HX.o.trans HE.o)
  go_wp2_with fail
  refine (a1T w5).mono ?_;rintro e w6 ⟨rfl, he⟩;have HX := hid (HX.o.trans he);clear he
  go_wp2
  go_ret
  exact ⟨rfl, HX.o⟩
 | true =>
 go_wp2
 go_loopw [13] (fun iv wr => ∃ (i : Nat) (C : List Cnt.S), i ≤ M0.length ∧ iv = .int .i64 (i : Int) ∧ CM wr gc b C ∧ C.length ≤ 20 + i ∧ Fr.a1f (l, out) C (q1, q2) (m1, m2) = true ∧ Ext w2 wr) (fun iv _ => M0.length - (intOf iv).toNat)
 case atStart => exact ⟨0, C0, Nat.zero_le _, rfl, HC.o, HLE.o 0, HP.o, HE.o⟩
 case round =>
 obtain ⟨i, C, hi, rfl, hc, hcl, hp, hext⟩ := hrel;rename World => wr
 have HC := hid hc;have HP := hid hp;have HE := hid hext;have hi9 : i ≤ 20 := by have := HM20.o; omega
 have HCL := hid hcl;have HC9 := hid (show C.length ≤ 256 by omega)
 clear hcl hp hc
 by_cases hlt : i < M0.length
 · have r1 : (i : Int) < (M0.length : Int) := by omega
   have r0 : 0 ≤ (i : Int) := by omega
   obtain ⟨bA, oA, rfl, y0, y1, y2, y3, y4⟩ := re5 (HU2.o.ext (HX.o.trans HE.o)) hlt;have HLT := hid hlt;obtain ⟨x, hx⟩ : ∃ x, M0[i] = x := ⟨_, rfl⟩;replace y0 : wr.cell? ⟨bA, oA + i * 5, none⟩ = some (.int .i64 x.1.1.1) := by rw [← hx]; exact y0
   replace y1 : wr.cell? ⟨bA, oA + i * 5 + 1, none⟩ = some (.int .i64 x.1.1.2) := by rw [← hx]; exact y1
   replace y2 : wr.cell? ⟨bA, oA + i * 5 + 2, none⟩ = some (.int .i64 x.1.2.1) := by rw [← hx]; exact y2
   replace y3 : wr.cell? ⟨bA, oA + i * 5 + 3, none⟩ = some (.int .i64 x.1.2.2) := by rw [← hx]; exact y3
   replace y4 : wr.cell? ⟨bA, oA + i * 5 + 4, none⟩ = some (.int .i64 x.2) := by rw [← hx]; exact y4
   clear hx hlt hext;obtain ⟨⟨⟨x1, x2⟩, x3, x4⟩, x5⟩ := x;dsimp only at y0 y1 y2 y3 y4;have HST := hid (fun W hc => a4t W gc b C hc (by have := HC9.o; omega))
   have HLD9 := hid (fun z W h hx => HLD.o HOK9.o HN.o.1 C HC9.o z (((x1, x2), x3, x4), x5) W h hx)
   have HAD := hid (fun W h => a9l W gc b C h ((x1, x2), x3, x4) x5)
   have HAL := hid (show (Cnt.add C ((x1, x2), x3, x4) x5).1.length ≤ 20 + (i + 1) from by
    have := Cnt.b34 C ((x1, x2), x3, x4) x5;have := HCL.o
    omega)
   have HPA9 := hid (fun hk => HPA.o HN.o.1 C HC.o.good ((x1, x2), x3, x4) x5 hk HP.o)
   have HPS8 := hid (HPS.o HN.o.1 (Cnt.add C ((x1, x2), x3, x4) x5).1 (by have := HAL.o; omega) gc b)
   generalize Fr.led (l, out) C ((x1, x2), x3, x4) = ld at *;generalize (Cnt.add C ((x1, x2), x3, x4) x5).1 = C2 at *;generalize (Cnt.add C ((x1, x2), x3, x4) x5).2 = ae at *
   go_upto_region 10 with fail
   have hx1 := (Ext.refl wr).alloc (.cells #[.int .i64 x1, .int .i64 x2, .int .i64 x3, .int .i64 x4, .int .i64 x5] 38);have HZ := hid (Blk.new wr 38 #[.int .i64 x1, .int .i64 x2, .int .i64 x3, .int .i64 x4, .int .i64 x5]);obtain ⟨bz, hbz⟩ : ∃ bz, bz = wr.heap.size := ⟨_, rfl⟩;rw [← hbz] at HZ ⊢;have HBZ := hid (show bz ≠ b from by rw [hbz]; exact Nat.ne_of_gt HC.o.lt.2)
   have HC := hid (HC.o.ext hx1);have HE := hid (HE.o.trans hx1);clear y0 y1 y2 y3 y4 hbz hx1;generalize wr.alloc (.cells #[.int .i64 x1, .int .i64 x2, .int .i64 x3, .int .i64 x4, .int .i64 x5] 38) = w6 at *
   go_cut [71] (fun s wx => ∃ bb, s = .bool bb ∧ (bb = false → ¬ 0 < x5 ∨ ld = true) ∧ Ext w6 wx)
   case first => as_aux_lemma =>
    have z0 := HZ.o.c0;have z1 := HZ.o.c1;have z2 := HZ.o.c2;have z3 := HZ.o.c3;have z4 := HZ.o.c4;have c00 := (HB0.o.ext HE.o).c0;have c01 := (HB0.o.ext HE.o).c1;have c10 := (HB1.o.ext HE.o).c0;have c11 := (HB1.o.ext HE.o).c1;have c20 := (HB2.o.ext HE.o).c0;have c21 := (HB2.o.ext HE.o).c1
    by_cases h5 : 0 < x5
    · have r5 : x5 > 0 := h5
      refine yx ?_;refine ya1 ?_;refine yl1 z4 ?_;refine ya ?_;refine yl2 c00 c01 ?_;refine ya1 ?_;refine a09 (fun v w2 => RE w2 v C) rfl rfl (a05 rfl) rfl (by first | exact (fun _ _ _ h k => RE.ext h k) | exact (fun _ _ _ h k => RE.extD h k)) ?_ ?_
      · intro a w' hR h1 K hK
        have e1 : _ = _ := h1;go_simp;refine (HST.o w' (HC.o.ext hR)).mono ?_;rintro e w2 ⟨v9, rfl, ho9, he⟩;exact hK _ _ he ho9.re
      refine yl5 z0 z1 z2 z3 z4 ?_;refine a09 (fun v _ => v = .bool ld) rfl rfl (a05 rfl) rfl (by exact a0j) ?_ ?_
      · intro a w' hR h1 h2 h3 K hK
        have e1 : _ = _ := h1;obtain ⟨x, ex, fx⟩ : ∃ x, a.tmps.getD 67 undef = x ∧ (fun v w2 => RE w2 v C) x w' := ⟨_, rfl, h2⟩
        have e3 : _ = _ := h3;go_simp;refine (HLD9.o x w' ((HX.o.trans HE.o).trans hR) fx).mono ?_;rintro e w2 ⟨rfl, he⟩;exact hK _ _ he rfl
      refine ya ?_;refine a02 ?_;intro w7 he hS
      iterate 6 (rintro _ rfl)
      iterate 1 (intro _ hz; clear hz)
      iterate 4 (rintro _ rfl)
      dsimp only [a0B];go_simp;have he : Ext w6 w7 := he
      go_wp2
      go_meet
      exact ⟨!ld, by simp, fun h => .inr (by simpa using h), he⟩
    have r5 : ¬ x5 > 0 := h5;refine yx ?_;refine ya1 ?_;refine yl1 z4 ?_;refine ya ?_;refine a02 ?_;intro w7 he hS
    iterate 11 (rintro _ rfl)
    dsimp only [a0B];go_simp;have he : Ext w6 w7 := he
    go_wp2
    go_meet
    exact ⟨false, rfl, fun _ => .inl h5, he⟩
   case rest =>
   obtain ⟨bb, rfl, hbb, he⟩ := hcut;rename World => w7
   have HBBF := hid hbb;clear hbb;have HC := hid (HC.o.ext he);have HE := hid (HE.o.trans he);have HZ := hid (HZ.o.ext he);clear he
   cases bb with
   | true =>
    go_wp2
    exact ⟨⟨i + 1, C, HLT.o, by go_num, HC.o, by have := HCL.o; omega, HP.o, HE.o⟩, by have := HLT.o; simp [intOf]; omega⟩
   | false =>
   have HPQ := hid (HPA9.o (by rcases HBBF.o (by first | rfl | trivial) with h | h; (· exact .inl (by omega)); (· exact .inr h)))
   have z0 := HZ.o.c0;have z1 := HZ.o.c1;have z2 := HZ.o.c2;have z3 := HZ.o.c3;have z4 := HZ.o.c4
   go_wp2_with fail
   refine (HAD.o w7 HC.o).mono ?_;rintro e w8 ⟨rfl, hc8, he⟩;have HC8 := hid hc8;have HE8 := hid (HE.o.andM he HBB.o);clear hc8 he z0 z1 z2 z3 z4;rw [HPQ.o] at HPS8;have c00 := (HB0.o.ext HE8.o).c0;have c01 := (HB0.o.ext HE8.o).c1;have c10 := (HB1.o.ext HE8.o).c0;have c11 := (HB1.o.ext HE8.o).c1;have c20 := (HB2.o.ext HE8.o).c0;have c21 := (HB2.o.ext HE8.o).c1
   go_wp2_with fail
   refine (HPS8.o w8 (HX.o.trans HE8.o) HC8.o).mono ?_;rintro e w9 ⟨rfl, he⟩;have HC9 := hid (HC8.o.ext he);have HE9 := hid (HE8.o.trans he);clear he;clear c00 c01 c10 c11 c20 c21
   go_wp2
   exact ⟨⟨i + 1, C2, HLT.o, by go_num, HC9.o, HAL.o, HPQ.o, HE9.o⟩, by have := HLT.o; simp [intOf]; omega⟩
 have r1 : ¬ (i : Int) < (M0.length : Int) := by omega
 have HDU9 := hid (HDU.o HN.o.1 C HC9.o gc b HP.o);have HOF9 := hid (HOF.o C gc b);have r1n := hlt;clear hext hi hlt;have c00 := (HB0.o.ext HE.o).c0;have c01 := (HB0.o.ext HE.o).c1;have c10 := (HB1.o.ext HE.o).c0;have c11 := (HB1.o.ext HE.o).c1;have c20 := (HB2.o.ext HE.o).c0;have c21 := (HB2.o.ext HE.o).c1;obtain ⟨wz, hwz⟩ : ∃ z, Cnt.was C ((q1, q2), m1, m2) = z := ⟨_, rfl⟩;rw [hwz] at HOF9;clear hwz
 go_wp2_with fail
 refine (HOF9.o wr HC.o).mono ?_;rintro e w6 ⟨rfl, he⟩;have HC := hid (HC.o.ext he);have HE := hid (HE.o.trans he);clear c00 c01 c10 c11 c20 c21;clear he
 by_cases hz : 0 < wz
 · have r5 : wz > 0 := hz
   have HX := hid (HX.o.trans HE.o)
   go_wp2
   go_ret
   exact ⟨rfl, HX.o⟩
 have r5 : ¬ wz > 0 := hz;have c00 := (HB0.o.ext HE.o).c0;have c01 := (HB0.o.ext HE.o).c1;have c10 := (HB1.o.ext HE.o).c0;have c11 := (HB1.o.ext HE.o).c1;have c20 := (HB2.o.ext HE.o).c0;have c21 := (HB2.o.ext HE.o).c1
 go_wp2_with fail
 refine (HDU9.o w6 (HX.o.trans HE.o) HC.o).mono ?_;rintro e w7 ⟨rfl, he⟩;have HX := hid ((HX.o.trans HE.o).trans he)
 go_wp2
 go_ret
 exact ⟨rfl, HX.o⟩
theorem a62 (w : World) (v : Value) (x : GArg) (hv : v = gAg x.1.1 x.2.2 ∧ a00 x.1.2 w x.1.1 x.2.1) (u : Value) (L : List Cnt.S) (hu : RE w u L) (u2 : Value) (M : List Cnt.S) (hu2 : RE w u2 M) (vq : Value) (q : Pl.P2) (hq : vq = plV q) (vm : Value) (m : Mom.M) (hm : vm = mV m) :
 Calls Tryz.prog 3 #[v, u, u2, vq, vm] w fun e w' => e = .returned (.bool true) ∧ Ext w w' := by
 obtain ⟨rfl, h⟩ := hv;subst hq hm;exact a61 x.1.2 x.1.1 x.2 u L u2 M q m w h hu hu2
end Go.Proofs.YtdkejfjcchlnpaaGreat
namespace Go.Proofs.YtdkejfjcchlnpaaGreat
open Go.RowKit Go.Ox Go.ChangeShapes Go.WideShapes Ct
theorem rows5 {cs : List Value} (h : a2I [.int .i64, .int .i64, .int .i64, .int .i64, .int .i64] cs) : ∃ x : Cnt.S, cs = encS.enc x := by
 obtain ⟨a, cs, rfl, _, h⟩ := a1P h;obtain ⟨b, cs, rfl, _, h⟩ := a1P h;obtain ⟨c, cs, rfl, _, h⟩ := a1P h;obtain ⟨d, cs, rfl, _, h⟩ := a1P h;obtain ⟨e, cs, rfl, _, h⟩ := a1P h;obtain rfl := a7D h;exact ⟨(((a, b), c, d), e), rfl⟩
section
variable {H : Type} {enc : TypeId × Value → H} {W : World} {base : Nat} {sp : Nat → Bool} {held : Bool} {v : Value} {d : DataW H} {p : List MemPlace} {r : Reach} {b0 : Nat}
theorem a8v : ∀ (rows : List (List Value)), (∀ x ∈ rows, a2I [.int .i64, .int .i64, .int .i64, .int .i64, .int .i64] x) → ∃ l : List Cnt.S, rows.length = l.length ∧ rows.flatten = eV l
 | [], _ => ⟨[], rfl, rfl⟩
 | r :: rows, h => by
  obtain ⟨l, h1, h2⟩ := a8v rows fun x hx => h x (List.mem_cons_of_mem _ hx)
  obtain ⟨x, rfl⟩ := rows5 (h r (List.mem_cons_self ..));exact ⟨x :: l, by simp [h1], by rw [List.flatten_cons, h2]; rfl⟩
theorem a8w (hv : Value.okWide Tryz.prog W r b0 25 v) (h : DataW.Trod enc Tryz.prog W base sp held 25 v d p) :
 ∃ l : List Cnt.S, RE W v l := by
 obtain ⟨rows, hr, hx⟩ := a8H (n := 8) (ks := [.int .i64, .int .i64, .int .i64, .int .i64, .int .i64]) Tryz.underlying25 (by kernel_rfl) (by kernel_rfl) (by decide) hv h
 obtain ⟨l, h1, h2⟩ := a8v rows hx;rw [h1, h2] at hr;exact ⟨l, hr⟩
end
end Go.Proofs.YtdkejfjcchlnpaaGreat
namespace Go.Proofs.YtdkejfjcchlnpaaGreat.Mo
open Go.RowKit Go.Ox Go.ChangeShapes Go.WideShapes
section
variable {H : Type} {enc : TypeId × Value → H} {W : World} {base : Nat} {sp : Nat → Bool} {held : Bool} {v : Value} {d : DataW H} {p : List MemPlace} {r : Reach} {b0 : Nat}
theorem momArg (hv : Value.okWide Tryz.prog W r b0 29 v) (h : DataW.Trod enc Tryz.prog W base sp held 29 v d p) :
 ∃ x : Mom.M, v = mV x := by
 obtain ⟨cs, rfl, hr⟩ := a5R (n := 8) (ks := [.int .i64, .int .i64]) (by kernel_rfl) Tryz.underlying29 hv h
 obtain ⟨n, cs, rfl, _, hr⟩ := a1P hr;obtain ⟨m, cs, rfl, _, hr⟩ := a1P hr;obtain rfl := a7D hr;exact ⟨(n, m), rfl⟩
end
end Go.Proofs.YtdkejfjcchlnpaaGreat.Mo
