/-
  PlRefL, FrLed, GrArgs, packed: what the claim needs of them.
-/
import Derived.Test.YtdkejfjcchlnpaaGreatFs43
set_option maxHeartbeats 40000000
open Go.Lib (hid)
set_option linter.unusedSimpArgs false
set_option linter.unusedVariables false
set_option maxRecDepth 100000
namespace Go.Ox.Pl
open Go.Ox.Gr Go.Proofs.YtdkejfjcchlnpaaGreat Go.Proofs.YtdkejfjcchlnpaaGreat.Mo
def a8t (g : G) (p : P2) (m : Mom.M) (q : P2) (n : Mom.M) : Bool := if Mom.ok m = true ∧ Mom.ok n = true then a3o (a4H g p q) m n else false
theorem b3J {g : G} {p q : P2} {m n : Mom.M} (hp : p ∈ gPl g) (hq : q ∈ gPl g) : a8t g p m q n = a0W g p m q n := by
 unfold a8t a0W;rw [b3G hp hq]
 split
 · rfl
 rename_i h
 cases hw : a4H g p q with
 | none => rfl
 | some x =>
 cases hl : a3o (some x) m n with
 | false => rfl
 | true =>
 rw [a6D] at hl;have := (a4T.1 hl.2.1).2.2.1;exact absurd ⟨this, hl.1⟩ h
end Go.Ox.Pl
namespace Go.Proofs.YtdkejfjcchlnpaaGreat
open Go.RowKit Go.Ox Go.Ox.Gr Mo
attribute [local irreducible] RE OE a00
theorem b1m (d : Nat) (v : Value) (g : G) (p : Pl.P2) (m : Mom.M) (q : Pl.P2) (n : Mom.M) (w : World) (hv : a00 d w v g.1) (hok : gOk g = true) (hn : (gPl g).length ≤ 20) (hp : p ∈ gPl g) :
 Calls Tryz.prog 44 #[gAg v g.2, plV p, mV m, plV q, mV n] w fun e w' => e = .returned (.bool (Pl.a8t g p m q n)) ∧ Ext w w' := by
 have HWY := hid (fun W (h : Ext w W) => a0P d v g p q W (hv.ext h) hok hn hp)
 have HLB := hid (show Pl.a8t g p m q n = if Mom.ok m = true ∧ Mom.ok n = true then Pl.a3o (Pl.a4H g p q) m n else false from rfl)
 have HCM := hid (fun W => Mo.a0y m W)
 have HCN := hid (fun W => Mo.a0y n W)
 have HLW := hid (show ∀ x, Pl.a3o (some x) m n = (Mom.ok n && (decide ((a11 x m).2 = 0) && Mom.ahead (a11 x m).1 n)) from fun x => rfl)
 have HLN := hid (show Pl.a3o none m n = false from rfl);have HWK := hid (fun x W => Mo.b2R x m W)
 have HAH := hid (fun y W => Mo.b11 y n W)
 obtain ⟨l, out⟩ := g;simp only at HWY hv;generalize Pl.a8t (l, out) p m q n = LB at *;generalize Pl.a4H (l, out) p q = WO at *;generalize Mom.ok m = om at *;generalize Mom.ok n = on at *;obtain ⟨A, c, rfl⟩ := hv.form;obtain ⟨p1, p2⟩ := p;obtain ⟨q1, q2⟩ := q;obtain ⟨m1, m2⟩ := m;obtain ⟨n1, n2⟩ := n;have HX := hid (show Ext w (((((w.alloc (.cells #[.slice A l.length c, .int .i64 out] 24)).alloc (.cells #[.int .i64 p1, .int .i64 p2] 27)).alloc (.cells #[.int .i64 m1, .int .i64 m2] 29)).alloc (.cells #[.int .i64 q1, .int .i64 q2] 27)).alloc (.cells #[.int .i64 n1, .int .i64 n2] 29)) from a0l [(#[.slice A l.length c, .int .i64 out], 24), (#[.int .i64 p1, .int .i64 p2], 27), (#[.int .i64 m1, .int .i64 m2], 29), (#[.int .i64 q1, .int .i64 q2], 27), (#[.int .i64 n1, .int .i64 n2], 29)] w);have HB0 := hid (show Blk (((((w.alloc (.cells #[.slice A l.length c, .int .i64 out] 24)).alloc (.cells #[.int .i64 p1, .int .i64 p2] 27)).alloc (.cells #[.int .i64 m1, .int .i64 m2] 29)).alloc (.cells #[.int .i64 q1, .int .i64 q2] 27)).alloc (.cells #[.int .i64 n1, .int .i64 n2] 29)) (w.heap.size) 24 #[.slice A l.length c, .int .i64 out] from a07 [(#[.slice A l.length c, .int .i64 out], 24), (#[.int .i64 p1, .int .i64 p2], 27), (#[.int .i64 m1, .int .i64 m2], 29), (#[.int .i64 q1, .int .i64 q2], 27), (#[.int .i64 n1, .int .i64 n2], 29)] w 0 _ _ rfl);have HB1 := hid (show Blk (((((w.alloc (.cells #[.slice A l.length c, .int .i64 out] 24)).alloc (.cells #[.int .i64 p1, .int .i64 p2] 27)).alloc (.cells #[.int .i64 m1, .int .i64 m2] 29)).alloc (.cells #[.int .i64 q1, .int .i64 q2] 27)).alloc (.cells #[.int .i64 n1, .int .i64 n2] 29)) (w.heap.size + 1) 27 #[.int .i64 p1, .int .i64 p2] from a07 [(#[.slice A l.length c, .int .i64 out], 24), (#[.int .i64 p1, .int .i64 p2], 27), (#[.int .i64 m1, .int .i64 m2], 29), (#[.int .i64 q1, .int .i64 q2], 27), (#[.int .i64 n1, .int .i64 n2], 29)] w 1 _ _ rfl);have HB2 := hid (show Blk (((((w.alloc (.cells #[.slice A l.length c, .int .i64 out] 24)).alloc (.cells #[.int .i64 p1, .int .i64 p2] 27)).alloc (.cells #[.int .i64 m1, .int .i64 m2] 29)).alloc (.cells #[.int .i64 q1, .int .i64 q2] 27)).alloc (.cells #[.int .i64 n1, .int .i64 n2] 29)) (w.heap.size + 1 + 1) 29 #[.int .i64 m1, .int .i64 m2] from a07 [(#[.slice A l.length c, .int .i64 out], 24), (#[.int .i64 p1, .int .i64 p2], 27), (#[.int .i64 m1, .int .i64 m2], 29), (#[.int .i64 q1, .int .i64 q2], 27), (#[.int .i64 n1, .int .i64 n2], 29)] w 2 _ _ rfl);have HB3 := hid (show Blk (((((w.alloc (.cells #[.slice A l.length c, .int .i64 out] 24)).alloc (.cells #[.int .i64 p1, .int .i64 p2] 27)).alloc (.cells #[.int .i64 m1, .int .i64 m2] 29)).alloc (.cells #[.int .i64 q1, .int .i64 q2] 27)).alloc (.cells #[.int .i64 n1, .int .i64 n2] 29)) (w.heap.size + 1 + 1 + 1) 27 #[.int .i64 q1, .int .i64 q2] from a07 [(#[.slice A l.length c, .int .i64 out], 24), (#[.int .i64 p1, .int .i64 p2], 27), (#[.int .i64 m1, .int .i64 m2], 29), (#[.int .i64 q1, .int .i64 q2], 27), (#[.int .i64 n1, .int .i64 n2], 29)] w 3 _ _ rfl);have HB4 := hid (show Blk (((((w.alloc (.cells #[.slice A l.length c, .int .i64 out] 24)).alloc (.cells #[.int .i64 p1, .int .i64 p2] 27)).alloc (.cells #[.int .i64 m1, .int .i64 m2] 29)).alloc (.cells #[.int .i64 q1, .int .i64 q2] 27)).alloc (.cells #[.int .i64 n1, .int .i64 n2] 29)) (w.heap.size + 1 + 1 + 1 + 1) 29 #[.int .i64 n1, .int .i64 n2] from a07 [(#[.slice A l.length c, .int .i64 out], 24), (#[.int .i64 p1, .int .i64 p2], 27), (#[.int .i64 m1, .int .i64 m2], 29), (#[.int .i64 q1, .int .i64 q2], 27), (#[.int .i64 n1, .int .i64 n2], 29)] w 4 _ _ rfl);clear hv hok hn hp
 go_enter Tryz.func44, Tryz.ntmps44
 go_upto_region 1 with fail
 generalize w.heap.size = bn at *;generalize ((((w.alloc (.cells #[.slice A l.length c, .int .i64 out] 24)).alloc (.cells #[.int .i64 p1, .int .i64 p2] 27)).alloc (.cells #[.int .i64 m1, .int .i64 m2] 29)).alloc (.cells #[.int .i64 q1, .int .i64 q2] 27)).alloc (.cells #[.int .i64 n1, .int .i64 n2] 29) = w0 at *;have c00 := HB0.o.c0;have c01 := HB0.o.c1;have c10 := HB1.o.c0;have c11 := HB1.o.c1;have c20 := HB2.o.c0;have c21 := HB2.o.c1;have c30 := HB3.o.c0;have c31 := HB3.o.c1;have c40 := HB4.o.c0;have c41 := HB4.o.c1
 go_wp2_with fail
 refine (HCM.o w0).mono ?_;rintro e w1 ⟨rfl, he⟩;clear c00 c01 c10 c11 c20 c21 c30 c31 c40 c41;have HX := hid (HX.o.trans he);have HB0 := hid (HB0.o.ext he);have HB1 := hid (HB1.o.ext he);have HB2 := hid (HB2.o.ext he);have HB3 := hid (HB3.o.ext he);have HB4 := hid (HB4.o.ext he);clear he;have c00 := HB0.o.c0;have c01 := HB0.o.c1;have c10 := HB1.o.c0;have c11 := HB1.o.c1;have c20 := HB2.o.c0;have c21 := HB2.o.c1;have c30 := HB3.o.c0;have c31 := HB3.o.c1;have c40 := HB4.o.c0;have c41 := HB4.o.c1
 cases om with
 | false =>
  have HR := hid (show LB = false from by rw [HLB.o]; rfl)
  clear c00 c01 c10 c11 c20 c21 c30 c31 c40 c41
  go_wp2
  go_ret
  exact ⟨by rw [HR.o]; rfl, HX.o⟩
 | true =>
 go_wp2_with fail
 refine (HCN.o w1).mono ?_;rintro e w2 ⟨rfl, he⟩;clear c00 c01 c10 c11 c20 c21 c30 c31 c40 c41;have HX := hid (HX.o.trans he);have HB0 := hid (HB0.o.ext he);have HB1 := hid (HB1.o.ext he);have HB2 := hid (HB2.o.ext he);have HB3 := hid (HB3.o.ext he);have HB4 := hid (HB4.o.ext he);clear he
 cases on with
 | false =>
  have HR := hid (show LB = false from by rw [HLB.o]; rfl)
  go_wp2
  go_ret
  exact ⟨by rw [HR.o]; rfl, HX.o⟩
 | true =>
 have c00 := HB0.o.c0;have c01 := HB0.o.c1;have c10 := HB1.o.c0;have c11 := HB1.o.c1;have c20 := HB2.o.c0;have c21 := HB2.o.c1;have c30 := HB3.o.c0;have c31 := HB3.o.c1;have c40 := HB4.o.c0;have c41 := HB4.o.c1
 go_wp2_with fail
 refine (HWY.o w2 HX.o).mono ?_;rintro e w3 ⟨rfl, he⟩;clear c00 c01 c10 c11 c20 c21 c30 c31 c40 c41;obtain ⟨z1, z2, hzz⟩ : ∃ z1 z2, WO.getD (false, 0) = (z1, z2) := ⟨_, _, rfl⟩;rw [hzz];have he3 := he.alloc (.cells #[.bool z1, .int .i64 z2] 107);have HZ := hid (Blk.new w3 107 #[.bool z1, .int .i64 z2]);have HX := hid (HX.o.trans he3);have HB0 := hid (HB0.o.ext he3);have HB1 := hid (HB1.o.ext he3);have HB2 := hid (HB2.o.ext he3);have HB3 := hid (HB3.o.ext he3);have HB4 := hid (HB4.o.ext he3);clear he3;clear he
 go_upto_region 4 with fail
 obtain ⟨qz, hqz⟩ : ∃ q, q = w3.heap.size := ⟨_, rfl⟩;rw [← hqz] at HZ ⊢;clear hqz;generalize w3.alloc (.cells #[.bool z1, .int .i64 z2] 107) = w4 at *
 cases hWO : WO with
 | none =>
  have HR := hid (show LB = false from by rw [HLB.o, hWO, HLN.o]; rfl)
  simp only [Option.isSome_none];clear hWO hzz
  go_wp2
  go_ret
  exact ⟨by rw [HR.o]; rfl, HX.o⟩
 | some x =>
 have hx : x = (z1, z2) := by rw [hWO] at hzz; simpa using hzz
 subst hx;simp only [Option.isSome_some];have HL9 := hid (show LB = (true && (decide ((a11 (z1, z2) (m1, m2)).2 = 0) && Mom.ahead (a11 (z1, z2) (m1, m2)).1 (n1, n2))) from by rw [HLB.o, if_pos (by simp), hWO, HLW.o])
 have HW9 := hid (HWK.o (z1, z2) w4);clear hWO hzz;obtain ⟨⟨y1, y2⟩, ye, hy⟩ : ∃ y ye, a11 (z1, z2) (m1, m2) = (y, ye) := ⟨_, _, rfl⟩;rw [hy] at HL9 HW9;clear hy;simp only at HL9 HW9;have c00 := HB0.o.c0;have c01 := HB0.o.c1;have c10 := HB1.o.c0;have c11 := HB1.o.c1;have c20 := HB2.o.c0;have c21 := HB2.o.c1;have c30 := HB3.o.c0;have c31 := HB3.o.c1;have c40 := HB4.o.c0;have c41 := HB4.o.c1;have d0 := HZ.o.c0;have d1 := HZ.o.c1
 go_wp2_with fail
 refine HW9.o.mono ?_;rintro e w5 ⟨rfl, he⟩;clear c00 c01 c10 c11 c20 c21 c30 c31 c40 c41;clear d0 d1 HW9;have he5 := he.alloc (.cells #[.int .i64 y1, .int .i64 y2] 29);have HY := hid (Blk.new w5 29 #[.int .i64 y1, .int .i64 y2]);have HX := hid (HX.o.trans he5);have HB0 := hid (HB0.o.ext he5);have HB1 := hid (HB1.o.ext he5);have HB2 := hid (HB2.o.ext he5);have HB3 := hid (HB3.o.ext he5);have HB4 := hid (HB4.o.ext he5);clear he5;clear he
 go_upto_region 7 with fail
 obtain ⟨qy, hqy⟩ : ∃ q, q = w5.heap.size := ⟨_, rfl⟩;rw [← hqy] at HY ⊢;clear hqy;generalize w5.alloc (.cells #[.int .i64 y1, .int .i64 y2] 29) = w6 at *;have c00 := HB0.o.c0;have c01 := HB0.o.c1;have c10 := HB1.o.c0;have c11 := HB1.o.c1;have c20 := HB2.o.c0;have c21 := HB2.o.c1;have c30 := HB3.o.c0;have c31 := HB3.o.c1;have c40 := HB4.o.c0;have c41 := HB4.o.c1;have d0 := HY.o.c0;have d1 := HY.o.c1
 by_cases hye : ye = 0
 · have HR := hid (show LB = Mom.ahead (y1, y2) (n1, n2) from by rw [HL9.o]; simp [hye])
   have HA9 := hid (HAH.o (y1, y2) w6);generalize Mom.ahead (y1, y2) (n1, n2) = rr at *;have t1 : (ye == 0) = true := by simpa using hye
   clear hye
   go_wp2_with fail
   refine HA9.o.mono ?_;rintro e w7 ⟨rfl, he⟩;have HX := hid (HX.o.trans he);clear c00 c01 c10 c11 c20 c21 c30 c31 c40 c41;clear d0 d1 he
   go_wp2
   go_ret
   exact ⟨by rw [HR.o]; rfl, HX.o⟩
 have HR := hid (show LB = false from by rw [HL9.o]; simp [hye])
 have t1 : (ye == 0) = false := by simpa using hye
 clear hye;clear c00 c01 c10 c11 c20 c21 c30 c31 c40 c41
 go_wp2
 go_ret
 exact ⟨by rw [HR.o]; rfl, HX.o⟩
end Go.Proofs.YtdkejfjcchlnpaaGreat
namespace Go.Ox.Fr
open Go.Ox.Gr Go.Ox.Pl Go.Proofs.YtdkejfjcchlnpaaGreat Go.Proofs.YtdkejfjcchlnpaaGreat.Mo
theorem led_s (g : G) (L : List Cnt.S) (k : Cnt.K) (i : Nat) (h : i < L.length) : led g (L.take (i + 1)) k = (led g (L.take i) k || a0W g L[i].1.1 L[i].1.2 k.1 k.2) := by
 unfold led;rw [List.take_succ_eq_append_getElem h, List.any_append];simp
theorem led_t {g : G} {L : List Cnt.S} {k : Cnt.K} {i : Nat} (h : i < L.length) (hb : a0W g L[i].1.1 L[i].1.2 k.1 k.2 = true) : led g L k = true := by
 unfold led;exact List.any_eq_true.2 ⟨_, List.getElem_mem h, hb⟩
theorem b5h {g : G} {p q : P2} {m n : Mom.M} (h : (gNd g p).isSome = false ∨ (gNd g q).isSome = false) : a0W g p m q n = false := by
 unfold a0W a6z;rw [if_neg]
 · rfl
 rintro ⟨h1, h2⟩
 rcases h with h | h
 · rw [h1] at h; cases h
 rw [h2] at h; cases h
end Go.Ox.Fr
namespace Go.Proofs.YtdkejfjcchlnpaaGreat
open Go.RowKit Go.Ox Go.Ox.Gr Go.Shelf Mo Ct
attribute [local irreducible] RE OE a00
theorem b3K (d : Nat) (v : Value) (g : G) (u : Value) (L : List Cnt.S) (s : Cnt.S) (w : World) (hv : a00 d w v g.1) (hok : gOk g = true) (hn : (gPl g).length ≤ 20) (hu : RE w u L) (hl : L.length ≤ 1000000) :
 Calls Tryz.prog 12 #[gAg v g.2, u, sV s] w fun e w' => e = .returned (.bool (Fr.led g L s.1)) ∧ Ext w w' := by
 have HPC := hid (fun p W (h : Ext w W) => a6C d v g p W (hv.ext h) hok)
 have HLD := hid (fun p m q n (hp : (gNd g p).isSome = true) (hq : (gNd g q).isSome = true) W (h : Ext w W) => (show Calls Tryz.prog 44 #[gAg v g.2, plV p, mV m, plV q, mV n] W fun e w' => e = .returned (.bool (Pl.a0W g p m q n)) ∧ Ext W w' from by
  rw [← Pl.b3J (Pl.b18 hp) (Pl.b18 hq)]
  exact b1m d v g p m q n W (hv.ext h) hok hn (Pl.b18 hp)))
 have HLS := hid (fun i h => Fr.led_s g L s.1 i h)
 have HLT0 := hid (fun i h hb => Fr.led_t (g := g) (L := L) (k := s.1) (i := i) h hb)
 have HNO := hid (fun p q m n h => Fr.b5h (g := g) (p := p) (q := q) (m := m) (n := n) h)
 have HU := hid hu;have HL9 := hid hl;obtain ⟨l, out⟩ := g;simp only at hv;obtain ⟨A, c, rfl⟩ := hv.form;obtain ⟨AU, cU, rfl⟩ := hu.form;obtain ⟨⟨⟨s1, s2⟩, s3, s4⟩, s5⟩ := s;dsimp only at HLS HLT0;obtain ⟨LD, hLD⟩ : ∃ LD, (fun X => Fr.led (l, out) X ((s1, s2), s3, s4)) = LD := ⟨_, rfl⟩
 have HL0 := hid (show LD [] = false from by rw [← hLD]; rfl)
 replace HLS := hid (show ∀ i (h : i < L.length), LD (L.take (i + 1)) = (LD (L.take i) || Pl.a0W (l, out) L[i].1.1 L[i].1.2 (s1, s2) (s3, s4)) from fun i h => by rw [← hLD]; exact HLS.o i h)
 replace HLT0 := hid (show ∀ i (h : i < L.length), Pl.a0W (l, out) L[i].1.1 L[i].1.2 (s1, s2) (s3, s4) = true → LD L = true from fun i h hb => by rw [← hLD]; exact HLT0.o i h hb)
 rw [show Fr.led (l, out) L ((s1, s2), s3, s4) = LD L from by rw [← hLD]]
 clear hLD;have HX := hid (show Ext w ((w.alloc (.cells #[.slice A l.length c, .int .i64 out] 24)).alloc (.cells #[.int .i64 s1, .int .i64 s2, .int .i64 s3, .int .i64 s4, .int .i64 s5] 38)) from a0l [(#[.slice A l.length c, .int .i64 out], 24), (#[.int .i64 s1, .int .i64 s2, .int .i64 s3, .int .i64 s4, .int .i64 s5], 38)] w);have HB0 := hid (show Blk ((w.alloc (.cells #[.slice A l.length c, .int .i64 out] 24)).alloc (.cells #[.int .i64 s1, .int .i64 s2, .int .i64 s3, .int .i64 s4, .int .i64 s5] 38)) (w.heap.size) 24 #[.slice A l.length c, .int .i64 out] from a07 [(#[.slice A l.length c, .int .i64 out], 24), (#[.int .i64 s1, .int .i64 s2, .int .i64 s3, .int .i64 s4, .int .i64 s5], 38)] w 0 _ _ rfl);have HB1 := hid (show Blk ((w.alloc (.cells #[.slice A l.length c, .int .i64 out] 24)).alloc (.cells #[.int .i64 s1, .int .i64 s2, .int .i64 s3, .int .i64 s4, .int .i64 s5] 38)) (w.heap.size + 1) 38 #[.int .i64 s1, .int .i64 s2, .int .i64 s3, .int .i64 s4, .int .i64 s5] from a07 [(#[.slice A l.length c, .int .i64 out], 24), (#[.int .i64 s1, .int .i64 s2, .int .i64 s3, .int .i64 s4, .int .i64 s5], 38)] w 1 _ _ rfl);clear hv hu hl hok hn
 go_enter Tryz.func12, Tryz.ntmps12
 go_upto_region 1 with fail
 generalize w.heap.size = bn at *;generalize (w.alloc (.cells #[.slice A l.length c, .int .i64 out] 24)).alloc (.cells #[.int .i64 s1, .int .i64 s2, .int .i64 s3, .int .i64 s4, .int .i64 s5] 38) = w0 at *
 go_wp2
 go_loopw [7] (fun iv wr => ∃ i : Nat, i ≤ L.length ∧ iv = .int .i64 (i : Int) ∧ LD (L.take i) = false ∧ Ext w0 wr) (fun iv _ => L.length - (intOf iv).toNat)
 case atStart => exact ⟨0, Nat.zero_le _, rfl, HL0.o, Ext.refl _⟩
 case round =>
 obtain ⟨i, hi, rfl, hf, hext⟩ := hrel;rename World => wr
 have HF := hid hf;have HE := hid hext;have hi9 : i ≤ 1000000 := by have := HL9.o; omega
 have HX := hid (HX.o.trans hext);have HB0 := hid (HB0.o.ext hext);have HB1 := hid (HB1.o.ext hext);have c00 := HB0.o.c0;have c01 := HB0.o.c1;have c10 := HB1.o.c0;have c11 := HB1.o.c1;have c12 := HB1.o.c2;have c13 := HB1.o.c3;have c14 := HB1.o.c4;clear hf
 by_cases hlt : i < L.length
 · have r1 : (i : Int) < (L.length : Int) := by omega
   have r0 : 0 ≤ (i : Int) := by omega
   obtain ⟨bA, oA, rfl, y0, y1, y2, y3, y4⟩ := re5 (HU.o.ext HX.o) hlt;have HLT := hid hlt;have HS9 := hid (HLS.o i hlt);have HT9 := hid (HLT0.o i hlt);obtain ⟨x, hx⟩ : ∃ x, L[i] = x := ⟨_, rfl⟩;replace y0 : wr.cell? ⟨bA, oA + i * 5, none⟩ = some (.int .i64 x.1.1.1) := by rw [← hx]; exact y0
   replace y1 : wr.cell? ⟨bA, oA + i * 5 + 1, none⟩ = some (.int .i64 x.1.1.2) := by rw [← hx]; exact y1
   replace y2 : wr.cell? ⟨bA, oA + i * 5 + 2, none⟩ = some (.int .i64 x.1.2.1) := by rw [← hx]; exact y2
   replace y3 : wr.cell? ⟨bA, oA + i * 5 + 3, none⟩ = some (.int .i64 x.1.2.2) := by rw [← hx]; exact y3
   replace HS9 := hid (show LD (L.take (i + 1)) = (LD (L.take i) || Pl.a0W (l, out) x.1.1 x.1.2 (s1, s2) (s3, s4)) from by rw [← hx]; exact HS9.o)
   replace HT9 := hid (show Pl.a0W (l, out) x.1.1 x.1.2 (s1, s2) (s3, s4) = true → LD L = true from by rw [← hx]; exact HT9.o)
   obtain ⟨⟨⟨x1, x2⟩, x3, x4⟩, x5⟩ := x;dsimp only at y0 y1 y2 y3 y4 HS9 HT9;have HP1 := hid (HPC.o (x1, x2));have HP2 := hid (HPC.o (s1, s2));have HLL := hid (fun h1 h2 => HLD.o (x1, x2) (x3, x4) (s1, s2) (s3, s4) h1 h2)
   have HN9 := hid (HNO.o (x1, x2) (s1, s2) (x3, x4) (s3, s4));generalize Pl.a0W (l, out) (x1, x2) (x3, x4) (s1, s2) (s3, s4) = lb at *;generalize (gNd (l, out) (x1, x2)).isSome = i1 at *;generalize (gNd (l, out) (s1, s2)).isSome = i2 at *;have r1n := hlt;clear hx hlt hext y4
   cases i1 with
   | false =>
    have HB9 := hid (HN9.o (.inl (by first | rfl | trivial)))
    go_wp2
    refine yx ?_;refine yl2 c00 c01 ?_;refine ya ?_;refine yl2 y0 y1 ?_;refine yc2 (.bool false) (fun w' hR => HP1.o w' (HX.o.trans hR)) ?_
    refine ya1 ?_
    iterate 4 (refine a3B rfl rfl (by first | exact .inl rfl | exact .inr rfl) ?_)
    refine ya1 ?_;refine ya1 ?_
    iterate 16 (refine a3B rfl rfl (by first | exact .inl rfl | exact .inr rfl) ?_)
    refine ya ?_;refine a02 ?_;intro w2 he hS
    iterate 31 (rintro _ rfl)
    dsimp only [a0B];go_simp;have he : Ext wr w2 := he;have HX9 := hid (HE.o.trans he)
    go_wp2
    exact ⟨⟨i + 1, by have := HLT.o; omega, by go_num, by rw [HS9.o, HF.o, HB9.o]; rfl, HX9.o⟩, by have := HLT.o; simp [intOf]; omega⟩
   | true =>
   cases i2 with
   | false =>
    have HB9 := hid (HN9.o (.inr (by first | rfl | trivial)))
    go_wp2
    refine yx ?_;refine yl2 c00 c01 ?_;refine ya ?_;refine yl2 y0 y1 ?_;refine yc2 (.bool true) (fun w' hR => HP1.o w' (HX.o.trans hR)) ?_
    refine ya1 ?_;refine yl2 c00 c01 ?_;refine ya1 ?_;refine yl2 c10 c11 ?_;refine yc2 (.bool false) (fun w' hR => HP2.o w' (HX.o.trans hR)) ?_
    refine ya1 ?_;refine ya1 ?_
    iterate 16 (refine a3B rfl rfl (by first | exact .inl rfl | exact .inr rfl) ?_)
    refine ya ?_;refine a02 ?_;intro w2 he hS
    iterate 31 (rintro _ rfl)
    dsimp only [a0B];go_simp;have he : Ext wr w2 := he;have HX9 := hid (HE.o.trans he)
    go_wp2
    exact ⟨⟨i + 1, by have := HLT.o; omega, by go_num, by rw [HS9.o, HF.o, HB9.o]; rfl, HX9.o⟩, by have := HLT.o; simp [intOf]; omega⟩
   | true =>
   have HL8 := hid (HLL.o (by first | rfl | trivial) (by first | rfl | trivial))
   cases lb with
   | false =>
    go_wp2
    refine yx ?_;refine yl2 c00 c01 ?_;refine ya ?_;refine yl2 y0 y1 ?_;refine yc2 (.bool true) (fun w' hR => HP1.o w' (HX.o.trans hR)) ?_
    refine ya1 ?_;refine yl2 c00 c01 ?_;refine ya1 ?_;refine yl2 c10 c11 ?_;refine yc2 (.bool true) (fun w' hR => HP2.o w' (HX.o.trans hR)) ?_
    refine ya1 ?_;refine ya1 ?_;refine yl2 c00 c01 ?_;refine ya ?_;refine yl2 y0 y1 ?_;refine ya ?_;refine yl2 y2 y3 ?_;refine ya1 ?_;refine yl2 c10 c11 ?_;refine ya1 ?_;refine yl2 c12 c13 ?_;refine yc5 (.bool false) (fun w' hR => HL8.o w' (HX.o.trans hR)) ?_
    refine ya ?_;refine a02 ?_;intro w2 he hS
    iterate 31 (rintro _ rfl)
    dsimp only [a0B];go_simp;have he : Ext wr w2 := he;have HX9 := hid (HE.o.trans he)
    go_wp2
    exact ⟨⟨i + 1, by have := HLT.o; omega, by go_num, by rw [HS9.o, HF.o]; rfl, HX9.o⟩, by have := HLT.o; simp [intOf]; omega⟩
   | true =>
   go_wp2
   refine yx ?_;refine yl2 c00 c01 ?_;refine ya ?_;refine yl2 y0 y1 ?_;refine yc2 (.bool true) (fun w' hR => HP1.o w' (HX.o.trans hR)) ?_
   refine ya1 ?_;refine yl2 c00 c01 ?_;refine ya1 ?_;refine yl2 c10 c11 ?_;refine yc2 (.bool true) (fun w' hR => HP2.o w' (HX.o.trans hR)) ?_
   refine ya1 ?_;refine ya1 ?_;refine yl2 c00 c01 ?_;refine ya ?_;refine yl2 y0 y1 ?_;refine ya ?_;refine yl2 y2 y3 ?_;refine ya1 ?_;refine yl2 c10 c11 ?_;refine ya1 ?_;refine yl2 c12 c13 ?_;refine yc5 (.bool true) (fun w' hR => HL8.o w' (HX.o.trans hR)) ?_
   refine ya ?_;refine a02 ?_;intro w2 he hS
   iterate 31 (rintro _ rfl)
   dsimp only [a0B];go_simp;have he : Ext wr w2 := he;have HX9 := hid (HE.o.trans he);have HT := hid (HT9.o (by first | rfl | trivial))
   have HX := hid (HX.o.trans he)
   go_wp2
   go_ret
   exact ⟨by first | (rw [HT.o]; done) | (rw [HT.o]; rfl), HX.o⟩
 have r1 : ¬ (i : Int) < (L.length : Int) := by omega
 have r1n := hlt;obtain rfl : i = L.length := by omega
 have HZ := hid (show LD L = false from by have := HF.o; rwa [List.take_length] at this)
 clear hext hi hlt
 go_wp2
 go_ret
 exact ⟨by first | (rw [HZ.o]; done) | (rw [HZ.o]; rfl), HX.o⟩
end Go.Proofs.YtdkejfjcchlnpaaGreat
namespace Go.Proofs.YtdkejfjcchlnpaaGreat
open Go.RowKit Go.Ox Go.Ox.Gr Go.ChangeShapes Go.WideShapes
section
variable {H : Type} {enc : TypeId × Value → H} {W : World} {base : Nat} {sp : Nat → Bool} {held : Bool} {v u : Value} {d : DataW H} {p : List MemPlace} {r : Reach} {b0 N : Nat}
theorem b3L {R : TypeId → Value → Prop} : ∀ (rows : List (List Value)), (∀ x ∈ rows, a7l R [.int .i64] x) → ∃ l : List Int, rows.length = l.length ∧ rows.flatten = eV l
 | [], _ => ⟨[], rfl, rfl⟩
 | r :: rows, h => by
  obtain ⟨l, h1, h2⟩ := b3L rows fun x hx => h x (List.mem_cons_of_mem _ hx)
  obtain ⟨n, cs, rfl, _, hr⟩ := a1X (h r (List.mem_cons_self ..));obtain rfl := a4N hr;exact ⟨n :: l, by simp [h1], by rw [List.flatten_cons, h2]; rfl⟩
theorem a9r (h : Was enc Tryz.prog W base sp held N 97 u) : ∃ l : List Int, RE W u l := by
 obtain ⟨rows, hr, -, hx⟩ := Was.rows (n := 8) (ks := [.int .i64]) Tryz.underlying97 (by kernel_rfl) (by kernel_rfl) (by decide) h
 obtain ⟨l, h1, h2⟩ := b3L rows hx;rw [h1, h2] at hr;exact ⟨l, RE.mk hr⟩
theorem a8u : ∀ (N : Nat) (u : Value), Was enc Tryz.prog W base sp held N 22 u → ∃ l : List Nd, a00 N W u l := by
 intro N
 induction N with
 | zero =>
  intro u h;obtain ⟨rows, hr, h0, hx⟩ := Was.rows (n := 8) (ks := [.int .i64, .cell 97, .int .i64, .int .i64, .int .i64, .cell 22]) Tryz.underlying22 (by kernel_rfl) (by kernel_rfl) (by decide) h
  obtain rfl : rows = [] := h0.elim id fun h => absurd h (Nat.lt_irrefl _)
  exact ⟨[], ⟨[], hr, rfl, fun i r x hr => by simp at hr⟩⟩
 | succ N ih =>
 intro u h;obtain ⟨rows, hr, h0, hx⟩ := Was.rows (n := 8) (ks := [.int .i64, .cell 97, .int .i64, .int .i64, .int .i64, .cell 22]) Tryz.underlying22 (by kernel_rfl) (by kernel_rfl) (by decide) h
 have each : ∀ r ∈ rows, r.length = 6 ∧ ∃ x : Nd, NdQ (a00 N) W r x := fun r hr2 => by
  have hr := hx r hr2;refine ⟨a6R hr, ?_⟩;obtain ⟨op, cs, rfl, _, hr⟩ := a1X hr;obtain ⟨u1, cs, rfl, hu1, hr⟩ := a5g hr;obtain ⟨kind, cs, rfl, _, hr⟩ := a1X hr;obtain ⟨fa, cs, rfl, _, hr⟩ := a1X hr;obtain ⟨a, cs, rfl, _, hr⟩ := a1X hr;obtain ⟨u2, cs, rfl, hu2, hr⟩ := a5g hr;obtain rfl := a4N hr;obtain ⟨ins, hins⟩ := a9r hu1;obtain ⟨body, hbody⟩ := ih _ hu2;exact ⟨.mk op ins kind fa a body, u1, u2, rfl, hins, hbody⟩
 obtain ⟨l, hl⟩ := RS.b5Y hr each;exact ⟨l, a00.b0x hl⟩
abbrev GArg := (Value × Nat) × G
theorem b5i (hv : Value.okWide Tryz.prog W r b0 24 v) (h : DataW.Trod enc Tryz.prog W base sp held 24 v d p) :
 ∃ x : GArg, v = gAg x.1.1 x.2.2 ∧ a00 x.1.2 W x.1.1 x.2.1 := by
 obtain ⟨cs, N, rfl, hr⟩ := a2R (n := 8) (ks := [.cell 22, .int .i64]) (by kernel_rfl) Tryz.underlying24 hv h
 obtain ⟨u, cs, rfl, hu, hr⟩ := a5g hr;obtain ⟨out, cs, rfl, _, hr⟩ := a1X hr;obtain rfl := a4N hr;obtain ⟨l, hl⟩ := a8u N u hu;exact ⟨((u, N), l, out), rfl, hl⟩
theorem b5j (hv : Value.okWide Tryz.prog W r b0 27 v) (h : DataW.Trod enc Tryz.prog W base sp held 27 v d p) :
 ∃ x : Pl, v = plV x := by
 obtain ⟨cs, N, rfl, hr⟩ := a2R (n := 8) (ks := [.int .i64, .int .i64]) (by kernel_rfl) Tryz.underlying27 hv h
 obtain ⟨a, cs, rfl, _, hr⟩ := a1X hr;obtain ⟨b, cs, rfl, _, hr⟩ := a1X hr;obtain rfl := a4N hr;exact ⟨(a, b), rfl⟩
end
end Go.Proofs.YtdkejfjcchlnpaaGreat
