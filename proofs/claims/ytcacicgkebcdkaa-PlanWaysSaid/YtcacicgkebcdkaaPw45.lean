/-
  PlWaysL, packed: what the claim needs of them.
-/
import Derived.Test.YtcacicgkebcdkaaPw37
import Derived.Test.YtcacicgkebcdkaaPw40
import Derived.Test.YtcacicgkebcdkaaPw44
set_option linter.unusedSimpArgs false
set_option linter.unusedVariables false
set_option maxRecDepth 100000
namespace Go.Ox.Pl
open Go.Ox.Gr Go.Proofs.Ytcacicgkebcdkaa Go.Proofs.Ytcacicgkebcdkaa.Mo
theorem wayO_no {g : G} {p q : P2} (h : gOk g = false ∨ (gNd g p).isSome = false ∨ (gNd g q).isSome = false) : wayO g p q = none := by
  unfold wayO
  rw [if_neg]
  rintro ⟨h1, h2⟩
  rcases h with h | h | h
  · unfold gNd at h1; rw [if_neg (by rw [h]; simp)] at h1; cases h1
  · rw [h] at h1; cases h1
  · rw [h] at h2; cases h2
theorem leadsB_no {g : G} {p q : P2} {m n : Mom.M} (h : wayO g p q = none) : leadsB g p m q n = false := by
  unfold leadsB; rw [h]; rfl
end Go.Ox.Pl
namespace Go.Proofs.Ytcacicgkebcdkaa
open Go.RowKit Go.Ox Go.Ox.Gr Mo
attribute [local irreducible] RE OE NodesR
set_option maxHeartbeats 8000000 in
theorem planWays_any (d : Nat) (v : Value) (g : G) (p q : Pl.P2) (m n : Mom.M) (w : World) (hv : NodesR d w v g.1) :
    Calls Try.prog 6 #[gAg v g.2, plV p, plV q, mV m, mV n] w fun e w' => e = .returned (.bool true) ∧ Ext w w' := by
  have HLG := Lib.hid (fun W (h : Ext w W) => large20_any d v g W (hv.ext h))
  have HWY := Lib.hid (fun (h : Pl.large g = false) W (hW : Ext w W) => way_any d v g p q W (hv.ext hW) (Pl.large_no h))
  have HLE := Lib.hid (fun (h : Pl.large g = false) W (hW : Ext w W) => leads_any d v g p m q n W (hv.ext hW) (Pl.large_no h))
  have HFR := Lib.hid (fun (h : Pl.large g = false) W (hW : Ext w W) => from_any d v g p W (hv.ext hW) (Pl.large_no h))
  have HCK := Lib.hid (fun W (h : Ext w W) => rCheck_any d v g.1 g.2 W (hv.ext h))
  have HPC := Lib.hid (fun (h : gOk g = true) x W (hW : Ext w W) => rplace_any d v g x W (hv.ext hW) h)
  have HRW := Lib.hid (fun (h : Pl.large g = false) (hok : gOk g = true) (hp : (gNd g p).isSome = true) x W (hW : Ext w W) => rway_any d v g p x W (hv.ext hW) hok (Pl.large_no h) (Pl.nd_pl hp))
  have HRL := Lib.hid (fun (h : Pl.large g = false) (hok : gOk g = true) (hp : (gNd g p).isSome = true) (hq : (gNd g q).isSome = true) W (hW : Ext w W) => (show Calls Try.prog 22 #[gAg v g.2, plV p, mV m, plV q, mV n] W fun e w' => e = .returned (.bool (Pl.leadsB g p m q n)) ∧ Ext W w' from by
    rw [← Pl.rleads_eq (Pl.nd_pl hp) (Pl.nd_pl hq)]
    exact rleads_any d v g p m q n W (hv.ext hW) hok (Pl.large_no h) (Pl.nd_pl hp)))
  have HPL := Lib.hid (fun (hok : gOk g = true) W (h : Ext w W) => (show Calls Try.prog 17 #[gAg v g.2] W fun e w' => ∃ u, e = .returned u ∧ OE 26 W.heap.size w' u (gPl g) ∧ Ext W w' from by
    have hpl : gPl g = places g.1 := by unfold gPl; rw [if_pos hok]
    rw [hpl]
    exact rPlaces_any d v g.1 g.2 W (hv.ext h) (body_le (l := g.1) (out := g.2) hok).1 (body_le (l := g.1) (out := g.2) hok).2))
  have HNO := Lib.hid (fun h => (⟨Pl.wayO_no (g := g) (p := p) (q := q) h, Pl.leadsB_no (m := m) (n := n) (Pl.wayO_no (g := g) (p := p) (q := q) h)⟩ : Pl.wayO g p q = none ∧ Pl.leadsB g p m q n = false))
  have HYS := Lib.hid (fun hp hq => Pl.wayO_pl (g := g) (p := p) (q := q) (Pl.nd_pl hp) (Pl.nd_pl hq))
  have HFL := Lib.hid (fun (hp : (gNd g p).isSome = true) => (show Pl.fromL g p = (gPl g).filterMap (Pl.fromF g p) from by unfold Pl.fromL; rw [if_pos hp]))
  have HFF := Lib.hid (fun x => (show Pl.fromF g p x = (Pl.wayM g p x).map fun w => (((p, x), w) : Pl.Ar) from rfl))
  have HN := Lib.hid (fun (h : Pl.large g = false) => Pl.large_no h)
  obtain ⟨l, out⟩ := g
  simp only at HCK HPL hv
  generalize Pl.large (l, out) = LG at *
  generalize Pl.wayO (l, out) p q = WO at *
  generalize Pl.leadsB (l, out) p m q n = LB at *
  generalize Pl.fromL (l, out) p = FL at *
  generalize Pl.fromF (l, out) p = FF at *
  generalize Pl.wayM (l, out) p = WM at *
  generalize gPl (l, out) = PL at *
  have HPCP := Lib.hid (fun h => HPC.out h p)
  have HPCQ := Lib.hid (fun h => HPC.out h q)
  generalize (gNd (l, out) p).isSome = sp at *
  generalize (gNd (l, out) q).isSome = sq at *
  generalize gOk (l, out) = ok at *
  have HRWQ := Lib.hid (fun a b c => HRW.out a b c q)
  clear HPC
  obtain ⟨A, c, rfl⟩ := hv.form
  obtain ⟨p1, p2⟩ := p
  obtain ⟨q1, q2⟩ := q
  obtain ⟨m1, m2⟩ := m
  obtain ⟨n1, n2⟩ := n
  have HX := Lib.hid (show Ext w (((((w.alloc (.cells #[.slice A l.length c, .int .i64 out] 24)).alloc (.cells #[.int .i64 p1, .int .i64 p2] 26)).alloc (.cells #[.int .i64 q1, .int .i64 q2] 26)).alloc (.cells #[.int .i64 m1, .int .i64 m2] 48)).alloc (.cells #[.int .i64 n1, .int .i64 n2] 48)) from allocs_ext [(#[.slice A l.length c, .int .i64 out], 24), (#[.int .i64 p1, .int .i64 p2], 26), (#[.int .i64 q1, .int .i64 q2], 26), (#[.int .i64 m1, .int .i64 m2], 48), (#[.int .i64 n1, .int .i64 n2], 48)] w)
  have HB0 := Lib.hid (show Blk (((((w.alloc (.cells #[.slice A l.length c, .int .i64 out] 24)).alloc (.cells #[.int .i64 p1, .int .i64 p2] 26)).alloc (.cells #[.int .i64 q1, .int .i64 q2] 26)).alloc (.cells #[.int .i64 m1, .int .i64 m2] 48)).alloc (.cells #[.int .i64 n1, .int .i64 n2] 48)) (w.heap.size) 24 #[.slice A l.length c, .int .i64 out] from allocs_at [(#[.slice A l.length c, .int .i64 out], 24), (#[.int .i64 p1, .int .i64 p2], 26), (#[.int .i64 q1, .int .i64 q2], 26), (#[.int .i64 m1, .int .i64 m2], 48), (#[.int .i64 n1, .int .i64 n2], 48)] w 0 _ _ rfl)
  have HB1 := Lib.hid (show Blk (((((w.alloc (.cells #[.slice A l.length c, .int .i64 out] 24)).alloc (.cells #[.int .i64 p1, .int .i64 p2] 26)).alloc (.cells #[.int .i64 q1, .int .i64 q2] 26)).alloc (.cells #[.int .i64 m1, .int .i64 m2] 48)).alloc (.cells #[.int .i64 n1, .int .i64 n2] 48)) (w.heap.size + 1) 26 #[.int .i64 p1, .int .i64 p2] from allocs_at [(#[.slice A l.length c, .int .i64 out], 24), (#[.int .i64 p1, .int .i64 p2], 26), (#[.int .i64 q1, .int .i64 q2], 26), (#[.int .i64 m1, .int .i64 m2], 48), (#[.int .i64 n1, .int .i64 n2], 48)] w 1 _ _ rfl)
  have HB2 := Lib.hid (show Blk (((((w.alloc (.cells #[.slice A l.length c, .int .i64 out] 24)).alloc (.cells #[.int .i64 p1, .int .i64 p2] 26)).alloc (.cells #[.int .i64 q1, .int .i64 q2] 26)).alloc (.cells #[.int .i64 m1, .int .i64 m2] 48)).alloc (.cells #[.int .i64 n1, .int .i64 n2] 48)) (w.heap.size + 1 + 1) 26 #[.int .i64 q1, .int .i64 q2] from allocs_at [(#[.slice A l.length c, .int .i64 out], 24), (#[.int .i64 p1, .int .i64 p2], 26), (#[.int .i64 q1, .int .i64 q2], 26), (#[.int .i64 m1, .int .i64 m2], 48), (#[.int .i64 n1, .int .i64 n2], 48)] w 2 _ _ rfl)
  have HB3 := Lib.hid (show Blk (((((w.alloc (.cells #[.slice A l.length c, .int .i64 out] 24)).alloc (.cells #[.int .i64 p1, .int .i64 p2] 26)).alloc (.cells #[.int .i64 q1, .int .i64 q2] 26)).alloc (.cells #[.int .i64 m1, .int .i64 m2] 48)).alloc (.cells #[.int .i64 n1, .int .i64 n2] 48)) (w.heap.size + 1 + 1 + 1) 48 #[.int .i64 m1, .int .i64 m2] from allocs_at [(#[.slice A l.length c, .int .i64 out], 24), (#[.int .i64 p1, .int .i64 p2], 26), (#[.int .i64 q1, .int .i64 q2], 26), (#[.int .i64 m1, .int .i64 m2], 48), (#[.int .i64 n1, .int .i64 n2], 48)] w 3 _ _ rfl)
  have HB4 := Lib.hid (show Blk (((((w.alloc (.cells #[.slice A l.length c, .int .i64 out] 24)).alloc (.cells #[.int .i64 p1, .int .i64 p2] 26)).alloc (.cells #[.int .i64 q1, .int .i64 q2] 26)).alloc (.cells #[.int .i64 m1, .int .i64 m2] 48)).alloc (.cells #[.int .i64 n1, .int .i64 n2] 48)) (w.heap.size + 1 + 1 + 1 + 1) 48 #[.int .i64 n1, .int .i64 n2] from allocs_at [(#[.slice A l.length c, .int .i64 out], 24), (#[.int .i64 p1, .int .i64 p2], 26), (#[.int .i64 q1, .int .i64 q2], 26), (#[.int .i64 m1, .int .i64 m2], 48), (#[.int .i64 n1, .int .i64 n2], 48)] w 4 _ _ rfl)
  clear hv
  go_enter Try.func6, Try.ntmps6
  go_upto_region 1 with fail
  generalize w.heap.size = bn at *
  generalize ((((w.alloc (.cells #[.slice A l.length c, .int .i64 out] 24)).alloc (.cells #[.int .i64 p1, .int .i64 p2] 26)).alloc (.cells #[.int .i64 q1, .int .i64 q2] 26)).alloc (.cells #[.int .i64 m1, .int .i64 m2] 48)).alloc (.cells #[.int .i64 n1, .int .i64 n2] 48) = w0 at *
  have c00 : w0.cell? ⟨bn, 0, none⟩ = some (.slice A l.length c) := HB0.out.cell 0
  have c01 : w0.cell? ⟨bn, 1, none⟩ = some (.int .i64 out) := HB0.out.cell 1
  have c10 : w0.cell? ⟨bn + 1, 0, none⟩ = some (.int .i64 p1) := HB1.out.cell 0
  have c11 : w0.cell? ⟨bn + 1, 1, none⟩ = some (.int .i64 p2) := HB1.out.cell 1
  have c20 : w0.cell? ⟨bn + 1 + 1, 0, none⟩ = some (.int .i64 q1) := HB2.out.cell 0
  have c21 : w0.cell? ⟨bn + 1 + 1, 1, none⟩ = some (.int .i64 q2) := HB2.out.cell 1
  have c30 : w0.cell? ⟨bn + 1 + 1 + 1, 0, none⟩ = some (.int .i64 m1) := HB3.out.cell 0
  have c31 : w0.cell? ⟨bn + 1 + 1 + 1, 1, none⟩ = some (.int .i64 m2) := HB3.out.cell 1
  have c40 : w0.cell? ⟨bn + 1 + 1 + 1 + 1, 0, none⟩ = some (.int .i64 n1) := HB4.out.cell 0
  have c41 : w0.cell? ⟨bn + 1 + 1 + 1 + 1, 1, none⟩ = some (.int .i64 n2) := HB4.out.cell 1
  go_wp2_with fail
  refine (HLG.out w0 HX.out).mono ?_
  rintro e w1 ⟨rfl, he⟩
  clear c00 c01 c10 c11 c20 c21 c30 c31 c40 c41
  have HX := Lib.hid (HX.out.trans he)
  have HB0 := Lib.hid (HB0.out.ext he)
  have HB1 := Lib.hid (HB1.out.ext he)
  have HB2 := Lib.hid (HB2.out.ext he)
  have HB3 := Lib.hid (HB3.out.ext he)
  have HB4 := Lib.hid (HB4.out.ext he)
  clear he
  cases LG with
  | true =>
    go_wp2_with fail
    refine (lives20_any w1).mono ?_
    rintro e w2 ⟨rfl, he⟩
    have HX := Lib.hid (HX.out.trans he)
    clear he
    go_wp2
    go_ret
    exact ⟨rfl, HX.out⟩
  | false =>
  have hno : ∀ h : ok = false ∨ sp = false ∨ sq = false, WO = none ∧ LB = false := HNO.out
  have HNO2 := Lib.hid hno
  clear hno
  obtain ⟨z1, z2, hzz⟩ : ∃ z1 z2, WO.getD (false, 0) = (z1, z2) := ⟨_, _, rfl⟩
  obtain ⟨iso, hiso⟩ : ∃ b, WO.isSome = b := ⟨_, rfl⟩
  have HW1 := Lib.hid (HWY.out (by first | rfl | trivial) w1 HX.out)
  rw [hzz, hiso] at HW1
  have HZZ := Lib.hid hzz
  have HIS := Lib.hid hiso
  clear hzz hiso
  have c00 : w1.cell? ⟨bn, 0, none⟩ = some (.slice A l.length c) := HB0.out.cell 0
  have c01 : w1.cell? ⟨bn, 1, none⟩ = some (.int .i64 out) := HB0.out.cell 1
  have c10 : w1.cell? ⟨bn + 1, 0, none⟩ = some (.int .i64 p1) := HB1.out.cell 0
  have c11 : w1.cell? ⟨bn + 1, 1, none⟩ = some (.int .i64 p2) := HB1.out.cell 1
  have c20 : w1.cell? ⟨bn + 1 + 1, 0, none⟩ = some (.int .i64 q1) := HB2.out.cell 0
  have c21 : w1.cell? ⟨bn + 1 + 1, 1, none⟩ = some (.int .i64 q2) := HB2.out.cell 1
  have c30 : w1.cell? ⟨bn + 1 + 1 + 1, 0, none⟩ = some (.int .i64 m1) := HB3.out.cell 0
  have c31 : w1.cell? ⟨bn + 1 + 1 + 1, 1, none⟩ = some (.int .i64 m2) := HB3.out.cell 1
  have c40 : w1.cell? ⟨bn + 1 + 1 + 1 + 1, 0, none⟩ = some (.int .i64 n1) := HB4.out.cell 0
  have c41 : w1.cell? ⟨bn + 1 + 1 + 1 + 1, 1, none⟩ = some (.int .i64 n2) := HB4.out.cell 1
  go_wp2_with fail
  refine (HW1.out).mono ?_
  rintro e w2 ⟨rfl, he⟩
  clear HW1
  have heb := he.alloc (.cells #[.bool z1, .int .i64 z2] 37)
  have Hx := Lib.hid (Blk.new w2 37 #[.bool z1, .int .i64 z2])
  clear he
  clear c00 c01 c10 c11 c20 c21 c30 c31 c40 c41
  have HX := Lib.hid (HX.out.trans heb)
  have HB0 := Lib.hid (HB0.out.ext heb)
  have HB1 := Lib.hid (HB1.out.ext heb)
  have HB2 := Lib.hid (HB2.out.ext heb)
  have HB3 := Lib.hid (HB3.out.ext heb)
  have HB4 := Lib.hid (HB4.out.ext heb)
  clear heb
  go_upto_region 4 with fail
  obtain ⟨bx, hbx⟩ : ∃ b, b = w2.heap.size := ⟨_, rfl⟩
  rw [← hbx] at Hx ⊢
  clear hbx
  generalize w2.alloc (.cells #[.bool z1, .int .i64 z2] 37) = w3 at *
  have c00 : w3.cell? ⟨bn, 0, none⟩ = some (.slice A l.length c) := HB0.out.cell 0
  have c01 : w3.cell? ⟨bn, 1, none⟩ = some (.int .i64 out) := HB0.out.cell 1
  have c10 : w3.cell? ⟨bn + 1, 0, none⟩ = some (.int .i64 p1) := HB1.out.cell 0
  have c11 : w3.cell? ⟨bn + 1, 1, none⟩ = some (.int .i64 p2) := HB1.out.cell 1
  have c20 : w3.cell? ⟨bn + 1 + 1, 0, none⟩ = some (.int .i64 q1) := HB2.out.cell 0
  have c21 : w3.cell? ⟨bn + 1 + 1, 1, none⟩ = some (.int .i64 q2) := HB2.out.cell 1
  have c30 : w3.cell? ⟨bn + 1 + 1 + 1, 0, none⟩ = some (.int .i64 m1) := HB3.out.cell 0
  have c31 : w3.cell? ⟨bn + 1 + 1 + 1, 1, none⟩ = some (.int .i64 m2) := HB3.out.cell 1
  have c40 : w3.cell? ⟨bn + 1 + 1 + 1 + 1, 0, none⟩ = some (.int .i64 n1) := HB4.out.cell 0
  have c41 : w3.cell? ⟨bn + 1 + 1 + 1 + 1, 1, none⟩ = some (.int .i64 n2) := HB4.out.cell 1
  have x0 : w3.cell? ⟨bx, 0, none⟩ = some (.bool z1) := Hx.out.cell 0
  have x1 : w3.cell? ⟨bx, 1, none⟩ = some (.int .i64 z2) := Hx.out.cell 1
  go_wp2_with fail
  refine (HLE.out (by first | rfl | trivial) w3 HX.out).mono ?_
  rintro e w4 ⟨rfl, he⟩
  clear c00 c01 c10 c11 c20 c21 c30 c31 c40 c41 x0 x1
  have HX := Lib.hid (HX.out.trans he)
  have HB0 := Lib.hid (HB0.out.ext he)
  have HB1 := Lib.hid (HB1.out.ext he)
  have HB2 := Lib.hid (HB2.out.ext he)
  have HB3 := Lib.hid (HB3.out.ext he)
  have HB4 := Lib.hid (HB4.out.ext he)
  have Hx := Lib.hid (Hx.out.ext he)
  clear he
  go_wp2_with fail
  refine (lives20_any w4).mono ?_
  rintro e w5 ⟨rfl, he⟩
  have HX := Lib.hid (HX.out.trans he)
  have HB0 := Lib.hid (HB0.out.ext he)
  have HB1 := Lib.hid (HB1.out.ext he)
  have HB2 := Lib.hid (HB2.out.ext he)
  have HB3 := Lib.hid (HB3.out.ext he)
  have HB4 := Lib.hid (HB4.out.ext he)
  have Hx := Lib.hid (Hx.out.ext he)
  clear he
  have c00 : w5.cell? ⟨bn, 0, none⟩ = some (.slice A l.length c) := HB0.out.cell 0
  have c01 : w5.cell? ⟨bn, 1, none⟩ = some (.int .i64 out) := HB0.out.cell 1
  have c10 : w5.cell? ⟨bn + 1, 0, none⟩ = some (.int .i64 p1) := HB1.out.cell 0
  have c11 : w5.cell? ⟨bn + 1, 1, none⟩ = some (.int .i64 p2) := HB1.out.cell 1
  have c20 : w5.cell? ⟨bn + 1 + 1, 0, none⟩ = some (.int .i64 q1) := HB2.out.cell 0
  have c21 : w5.cell? ⟨bn + 1 + 1, 1, none⟩ = some (.int .i64 q2) := HB2.out.cell 1
  have c30 : w5.cell? ⟨bn + 1 + 1 + 1, 0, none⟩ = some (.int .i64 m1) := HB3.out.cell 0
  have c31 : w5.cell? ⟨bn + 1 + 1 + 1, 1, none⟩ = some (.int .i64 m2) := HB3.out.cell 1
  have c40 : w5.cell? ⟨bn + 1 + 1 + 1 + 1, 0, none⟩ = some (.int .i64 n1) := HB4.out.cell 0
  have c41 : w5.cell? ⟨bn + 1 + 1 + 1 + 1, 1, none⟩ = some (.int .i64 n2) := HB4.out.cell 1
  have x0 : w5.cell? ⟨bx, 0, none⟩ = some (.bool z1) := Hx.out.cell 0
  have x1 : w5.cell? ⟨bx, 1, none⟩ = some (.int .i64 z2) := Hx.out.cell 1
  go_wp2_with fail
  refine (HCK.out w5 HX.out).mono ?_
  rintro e w6 ⟨rfl, he⟩
  clear c00 c01 c10 c11 c20 c21 c30 c31 c40 c41 x0 x1
  have HX := Lib.hid (HX.out.trans he)
  have HB0 := Lib.hid (HB0.out.ext he)
  have HB1 := Lib.hid (HB1.out.ext he)
  have HB2 := Lib.hid (HB2.out.ext he)
  have HB3 := Lib.hid (HB3.out.ext he)
  have HB4 := Lib.hid (HB4.out.ext he)
  have Hx := Lib.hid (Hx.out.ext he)
  clear he
  have c00 : w6.cell? ⟨bn, 0, none⟩ = some (.slice A l.length c) := HB0.out.cell 0
  have c01 : w6.cell? ⟨bn, 1, none⟩ = some (.int .i64 out) := HB0.out.cell 1
  have c10 : w6.cell? ⟨bn + 1, 0, none⟩ = some (.int .i64 p1) := HB1.out.cell 0
  have c11 : w6.cell? ⟨bn + 1, 1, none⟩ = some (.int .i64 p2) := HB1.out.cell 1
  have c20 : w6.cell? ⟨bn + 1 + 1, 0, none⟩ = some (.int .i64 q1) := HB2.out.cell 0
  have c21 : w6.cell? ⟨bn + 1 + 1, 1, none⟩ = some (.int .i64 q2) := HB2.out.cell 1
  have c30 : w6.cell? ⟨bn + 1 + 1 + 1, 0, none⟩ = some (.int .i64 m1) := HB3.out.cell 0
  have c31 : w6.cell? ⟨bn + 1 + 1 + 1, 1, none⟩ = some (.int .i64 m2) := HB3.out.cell 1
  have c40 : w6.cell? ⟨bn + 1 + 1 + 1 + 1, 0, none⟩ = some (.int .i64 n1) := HB4.out.cell 0
  have c41 : w6.cell? ⟨bn + 1 + 1 + 1 + 1, 1, none⟩ = some (.int .i64 n2) := HB4.out.cell 1
  have x0 : w6.cell? ⟨bx, 0, none⟩ = some (.bool z1) := Hx.out.cell 0
  have x1 : w6.cell? ⟨bx, 1, none⟩ = some (.int .i64 z2) := Hx.out.cell 1
  cases ok with
  | false =>
    have hno := HNO2.out (.inl rfl)
    have h1 := HZZ.out
    have h2 := HIS.out
    rw [hno.1] at h1 h2
    have h3 := hno.2
    simp only [Option.getD_none, Prod.mk.injEq, Option.isSome_none] at h1 h2
    obtain ⟨h1, h4⟩ := h1
    subst h1 h2 h3 h4
    clear hno
    go_wp2
    go_ret
    exact ⟨rfl, HX.out⟩
  | true =>
    go_wp2_with fail
    refine (HPCP.out (by first | rfl | trivial) w6 HX.out).mono ?_
    rintro e w7 ⟨rfl, he⟩
    clear c00 c01 c10 c11 c20 c21 c30 c31 c40 c41 x0 x1
    have HX := Lib.hid (HX.out.trans he)
    have HB0 := Lib.hid (HB0.out.ext he)
    have HB1 := Lib.hid (HB1.out.ext he)
    have HB2 := Lib.hid (HB2.out.ext he)
    have HB3 := Lib.hid (HB3.out.ext he)
    have HB4 := Lib.hid (HB4.out.ext he)
    have Hx := Lib.hid (Hx.out.ext he)
    clear he
    have c00 : w7.cell? ⟨bn, 0, none⟩ = some (.slice A l.length c) := HB0.out.cell 0
    have c01 : w7.cell? ⟨bn, 1, none⟩ = some (.int .i64 out) := HB0.out.cell 1
    have c10 : w7.cell? ⟨bn + 1, 0, none⟩ = some (.int .i64 p1) := HB1.out.cell 0
    have c11 : w7.cell? ⟨bn + 1, 1, none⟩ = some (.int .i64 p2) := HB1.out.cell 1
    have c20 : w7.cell? ⟨bn + 1 + 1, 0, none⟩ = some (.int .i64 q1) := HB2.out.cell 0
    have c21 : w7.cell? ⟨bn + 1 + 1, 1, none⟩ = some (.int .i64 q2) := HB2.out.cell 1
    have c30 : w7.cell? ⟨bn + 1 + 1 + 1, 0, none⟩ = some (.int .i64 m1) := HB3.out.cell 0
    have c31 : w7.cell? ⟨bn + 1 + 1 + 1, 1, none⟩ = some (.int .i64 m2) := HB3.out.cell 1
    have c40 : w7.cell? ⟨bn + 1 + 1 + 1 + 1, 0, none⟩ = some (.int .i64 n1) := HB4.out.cell 0
    have c41 : w7.cell? ⟨bn + 1 + 1 + 1 + 1, 1, none⟩ = some (.int .i64 n2) := HB4.out.cell 1
    have x0 : w7.cell? ⟨bx, 0, none⟩ = some (.bool z1) := Hx.out.cell 0
    have x1 : w7.cell? ⟨bx, 1, none⟩ = some (.int .i64 z2) := Hx.out.cell 1
    cases sp with
    | false =>
      have hno := HNO2.out (.inr (.inl rfl))
      have h1 := HZZ.out
      have h2 := HIS.out
      rw [hno.1] at h1 h2
      have h3 := hno.2
      simp only [Option.getD_none, Prod.mk.injEq, Option.isSome_none] at h1 h2
      obtain ⟨h1, h4⟩ := h1
      subst h1 h2 h3 h4
      clear hno
      go_wp2
      go_ret
      exact ⟨rfl, HX.out⟩
    | true =>
      go_wp2_with fail
      refine (HPCQ.out (by first | rfl | trivial) w7 HX.out).mono ?_
      rintro e w8 ⟨rfl, he⟩
      clear c00 c01 c10 c11 c20 c21 c30 c31 c40 c41 x0 x1
      have HX := Lib.hid (HX.out.trans he)
      have HB0 := Lib.hid (HB0.out.ext he)
      have HB1 := Lib.hid (HB1.out.ext he)
      have HB2 := Lib.hid (HB2.out.ext he)
      have HB3 := Lib.hid (HB3.out.ext he)
      have HB4 := Lib.hid (HB4.out.ext he)
      have Hx := Lib.hid (Hx.out.ext he)
      clear he
      have c00 : w8.cell? ⟨bn, 0, none⟩ = some (.slice A l.length c) := HB0.out.cell 0
      have c01 : w8.cell? ⟨bn, 1, none⟩ = some (.int .i64 out) := HB0.out.cell 1
      have c10 : w8.cell? ⟨bn + 1, 0, none⟩ = some (.int .i64 p1) := HB1.out.cell 0
      have c11 : w8.cell? ⟨bn + 1, 1, none⟩ = some (.int .i64 p2) := HB1.out.cell 1
      have c20 : w8.cell? ⟨bn + 1 + 1, 0, none⟩ = some (.int .i64 q1) := HB2.out.cell 0
      have c21 : w8.cell? ⟨bn + 1 + 1, 1, none⟩ = some (.int .i64 q2) := HB2.out.cell 1
      have c30 : w8.cell? ⟨bn + 1 + 1 + 1, 0, none⟩ = some (.int .i64 m1) := HB3.out.cell 0
      have c31 : w8.cell? ⟨bn + 1 + 1 + 1, 1, none⟩ = some (.int .i64 m2) := HB3.out.cell 1
      have c40 : w8.cell? ⟨bn + 1 + 1 + 1 + 1, 0, none⟩ = some (.int .i64 n1) := HB4.out.cell 0
      have c41 : w8.cell? ⟨bn + 1 + 1 + 1 + 1, 1, none⟩ = some (.int .i64 n2) := HB4.out.cell 1
      have x0 : w8.cell? ⟨bx, 0, none⟩ = some (.bool z1) := Hx.out.cell 0
      have x1 : w8.cell? ⟨bx, 1, none⟩ = some (.int .i64 z2) := Hx.out.cell 1
      cases sq with
      | false =>
        have hno := HNO2.out (.inr (.inr rfl))
        have h1 := HZZ.out
        have h2 := HIS.out
        rw [hno.1] at h1 h2
        have h3 := hno.2
        simp only [Option.getD_none, Prod.mk.injEq, Option.isSome_none] at h1 h2
        obtain ⟨h1, h4⟩ := h1
        subst h1 h2 h3 h4
        clear hno
        go_wp2
        go_ret
        exact ⟨rfl, HX.out⟩
      | true =>
      have HEQ := Lib.hid (HYS.out (by first | rfl | trivial) (by first | rfl | trivial))
      have HW2 := Lib.hid (HRWQ.out (by first | rfl | trivial) (by first | rfl | trivial) (by first | rfl | trivial) w8 HX.out)
      rw [← HEQ.out, HZZ.out, HIS.out] at HW2
      go_wp2_with fail
      refine (HW2.out).mono ?_
      rintro e w9 ⟨rfl, he⟩
      clear HW2
      have heb := he.alloc (.cells #[.bool z1, .int .i64 z2] 37)
      have Hy := Lib.hid (Blk.new w9 37 #[.bool z1, .int .i64 z2])
      clear he
      clear c00 c01 c10 c11 c20 c21 c30 c31 c40 c41 x0 x1
      have HX := Lib.hid (HX.out.trans heb)
      have HB0 := Lib.hid (HB0.out.ext heb)
      have HB1 := Lib.hid (HB1.out.ext heb)
      have HB2 := Lib.hid (HB2.out.ext heb)
      have HB3 := Lib.hid (HB3.out.ext heb)
      have HB4 := Lib.hid (HB4.out.ext heb)
      have Hx := Lib.hid (Hx.out.ext heb)
      clear heb
      go_upto_region 10 with fail
      obtain ⟨by_, hby⟩ : ∃ b, b = w9.heap.size := ⟨_, rfl⟩
      rw [← hby] at Hy ⊢
      clear hby
      generalize w9.alloc (.cells #[.bool z1, .int .i64 z2] 37) = w10 at *
      have c00 : w10.cell? ⟨bn, 0, none⟩ = some (.slice A l.length c) := HB0.out.cell 0
      have c01 : w10.cell? ⟨bn, 1, none⟩ = some (.int .i64 out) := HB0.out.cell 1
      have c10 : w10.cell? ⟨bn + 1, 0, none⟩ = some (.int .i64 p1) := HB1.out.cell 0
      have c11 : w10.cell? ⟨bn + 1, 1, none⟩ = some (.int .i64 p2) := HB1.out.cell 1
      have c20 : w10.cell? ⟨bn + 1 + 1, 0, none⟩ = some (.int .i64 q1) := HB2.out.cell 0
      have c21 : w10.cell? ⟨bn + 1 + 1, 1, none⟩ = some (.int .i64 q2) := HB2.out.cell 1
      have c30 : w10.cell? ⟨bn + 1 + 1 + 1, 0, none⟩ = some (.int .i64 m1) := HB3.out.cell 0
      have c31 : w10.cell? ⟨bn + 1 + 1 + 1, 1, none⟩ = some (.int .i64 m2) := HB3.out.cell 1
      have c40 : w10.cell? ⟨bn + 1 + 1 + 1 + 1, 0, none⟩ = some (.int .i64 n1) := HB4.out.cell 0
      have c41 : w10.cell? ⟨bn + 1 + 1 + 1 + 1, 1, none⟩ = some (.int .i64 n2) := HB4.out.cell 1
      have x0 : w10.cell? ⟨bx, 0, none⟩ = some (.bool z1) := Hx.out.cell 0
      have x1 : w10.cell? ⟨bx, 1, none⟩ = some (.int .i64 z2) := Hx.out.cell 1
      have y0 : w10.cell? ⟨by_, 0, none⟩ = some (.bool z1) := Hy.out.cell 0
      have y1 : w10.cell? ⟨by_, 1, none⟩ = some (.int .i64 z2) := Hy.out.cell 1
      go_wp2_with fail
      refine (HFR.out (by first | rfl | trivial) w10 HX.out).mono ?_
      rintro e w11 ⟨uf, rfl, huf, he⟩
      obtain ⟨AF, cF, rfl⟩ := huf.form
      have HF := Lib.hid huf
      clear huf
      clear c00 c01 c10 c11 c20 c21 c30 c31 c40 c41 x0 x1 y0 y1
      have HX := Lib.hid (HX.out.trans he)
      have HB0 := Lib.hid (HB0.out.ext he)
      have HB1 := Lib.hid (HB1.out.ext he)
      have HB2 := Lib.hid (HB2.out.ext he)
      have HB3 := Lib.hid (HB3.out.ext he)
      have HB4 := Lib.hid (HB4.out.ext he)
      have Hx := Lib.hid (Hx.out.ext he)
      have Hy := Lib.hid (Hy.out.ext he)
      clear he
      have c00 : w11.cell? ⟨bn, 0, none⟩ = some (.slice A l.length c) := HB0.out.cell 0
      have c01 : w11.cell? ⟨bn, 1, none⟩ = some (.int .i64 out) := HB0.out.cell 1
      have c10 : w11.cell? ⟨bn + 1, 0, none⟩ = some (.int .i64 p1) := HB1.out.cell 0
      have c11 : w11.cell? ⟨bn + 1, 1, none⟩ = some (.int .i64 p2) := HB1.out.cell 1
      have c20 : w11.cell? ⟨bn + 1 + 1, 0, none⟩ = some (.int .i64 q1) := HB2.out.cell 0
      have c21 : w11.cell? ⟨bn + 1 + 1, 1, none⟩ = some (.int .i64 q2) := HB2.out.cell 1
      have c30 : w11.cell? ⟨bn + 1 + 1 + 1, 0, none⟩ = some (.int .i64 m1) := HB3.out.cell 0
      have c31 : w11.cell? ⟨bn + 1 + 1 + 1, 1, none⟩ = some (.int .i64 m2) := HB3.out.cell 1
      have c40 : w11.cell? ⟨bn + 1 + 1 + 1 + 1, 0, none⟩ = some (.int .i64 n1) := HB4.out.cell 0
      have c41 : w11.cell? ⟨bn + 1 + 1 + 1 + 1, 1, none⟩ = some (.int .i64 n2) := HB4.out.cell 1
      have x0 : w11.cell? ⟨bx, 0, none⟩ = some (.bool z1) := Hx.out.cell 0
      have x1 : w11.cell? ⟨bx, 1, none⟩ = some (.int .i64 z2) := Hx.out.cell 1
      have y0 : w11.cell? ⟨by_, 0, none⟩ = some (.bool z1) := Hy.out.cell 0
      have y1 : w11.cell? ⟨by_, 1, none⟩ = some (.int .i64 z2) := Hy.out.cell 1
      go_wp2_with fail
      refine (HPL.out (by first | rfl | trivial) w11 HX.out).mono ?_
      rintro e w12 ⟨ul, rfl, hul, he⟩
      obtain ⟨AL, cL, rfl⟩ := hul.re.form
      have HF := Lib.hid (HF.out.ext he)
      have HL := Lib.hid hul.re
      clear hul
      clear c00 c01 c10 c11 c20 c21 c30 c31 c40 c41 x0 x1 y0 y1
      have HX := Lib.hid (HX.out.trans he)
      have HB0 := Lib.hid (HB0.out.ext he)
      have HB1 := Lib.hid (HB1.out.ext he)
      have HB2 := Lib.hid (HB2.out.ext he)
      have HB3 := Lib.hid (HB3.out.ext he)
      have HB4 := Lib.hid (HB4.out.ext he)
      have Hx := Lib.hid (Hx.out.ext he)
      have Hy := Lib.hid (Hy.out.ext he)
      clear he
      have HFE := Lib.hid (HFL.out (by first | rfl | trivial))
      have hn20 := HN.out (by first | rfl | trivial)
      have hfl : FL.length ≤ 20 := by rw [HFE.out]; exact Nat.le_trans (List.length_filterMap_le _ _) hn20
      go_wp2
      go_loopw [18, 19] (fun kv iv wr => ∃ i : Nat, i ≤ PL.length ∧ iv = .int .i64 (i : Int) ∧ kv = .int .i64 ((((PL.take i).filterMap FF).length : Nat) : Int) ∧ Ext w12 wr) (fun _ iv _ => PL.length - (intOf iv).toNat)
      case atStart => exact ⟨0, Nat.zero_le _, rfl, rfl, Ext.refl _⟩
      case round =>
        obtain ⟨i, hi, rfl, rfl, hext⟩ := hrel
        have HE := Lib.hid hext
        by_cases hlt : i < PL.length
        · have r1 : (i : Int) < (PL.length : Int) := by omega
          have r0 : 0 ≤ (i : Int) := by omega
          have HLT := Lib.hid hlt
          obtain ⟨bL, oL, hAL, y0, y1⟩ := rp2 (HL.out.ext hext) hlt
          obtain ⟨x, hx⟩ : ∃ x, PL[i] = x := ⟨_, rfl⟩
          have HTK := Lib.hid (show (PL.take (i + 1)).filterMap FF = (PL.take i).filterMap FF ++ (FF x).toList from by rw [← hx]; exact Pl.fmk FF PL hlt)
          obtain ⟨k, hk⟩ : ∃ k, ((PL.take i).filterMap FF).length = k := ⟨_, rfl⟩
          have HAT := Lib.hid (show ∀ z, FF x = some z → FL[k]? = some z from fun z hz => by rw [HFE.out]; exact Pl.fm_at FF hlt (by subst hx; exact hz) hk)
          replace y0 : wr.cell? ⟨bL, oL + i * 2, none⟩ = some (.int .i64 x.1) := by rw [← hx]; exact y0
          replace y1 : wr.cell? ⟨bL, oL + i * 2 + 1, none⟩ = some (.int .i64 x.2) := by rw [← hx]; exact y1
          have HFX := Lib.hid (HFF.out x)
          have HCL := Lib.hid (fun W (hW : Ext wr W) => HRW.out (by first | rfl | trivial) (by first | rfl | trivial) (by first | rfl | trivial) x W ((HX.out.trans hext).trans hW))
          have hk20 : ((PL.take i).filterMap FF).length ≤ 20 := by have := List.length_filterMap_le FF (PL.take i); rw [List.length_take] at this; omega
          have HKE := Lib.hid hk
          rw [hk] at hk20 ⊢
          clear hk
          obtain ⟨s1, s2, hss⟩ : ∃ s1 s2, (WM x).getD (false, 0) = (s1, s2) := ⟨_, _, rfl⟩
          rw [hss] at HCL
          obtain ⟨has, hhas⟩ : ∃ b, (WM x).isSome = b := ⟨_, rfl⟩
          rw [hhas] at HCL
          have HSS := Lib.hid hss
          have HHS := Lib.hid hhas
          obtain ⟨x1, x2⟩ := x
          simp only at y0 y1
          subst hAL
          have g0 : wr.cell? ⟨bn, 0, none⟩ = some (.slice A l.length c) := (HB0.out.ext hext).cell 0
          have g1 : wr.cell? ⟨bn, 1, none⟩ = some (.int .i64 out) := (HB0.out.ext hext).cell 1
          have g2 : wr.cell? ⟨bn + 1, 0, none⟩ = some (.int .i64 p1) := (HB1.out.ext hext).cell 0
          have g3 : wr.cell? ⟨bn + 1, 1, none⟩ = some (.int .i64 p2) := (HB1.out.ext hext).cell 1
          have hA := World.block_lt_of_cell? wr _ g0
          have hA2 := World.block_lt_of_cell? wr _ g2
          have hP := World.block_lt_of_cell? wr _ y0
          simp only at hA hA2 hP
          have hA1 : ¬ bn = wr.heap.size := by omega
          have hA3 : ¬ bn + 1 = wr.heap.size := by omega
          have hP1 : ¬ bL = wr.heap.size := by omega
          clear hext hlt hi hx hss hhas
          go_upto_region 16 with fail
          go_cut [20, 21] (fun s7 s8 wx => ∃ n7, s7 = .pointer (some ⟨n7, 0, none⟩) ∧ s8 = .bool has ∧ Blk wx n7 37 #[.bool s1, .int .i64 s2] ∧ Ext wr wx)
          case first =>
            clear HLG HWY HLE HFR HCK HRW HRL HPL HNO HYS HFL HFF HN HPCP HPCQ HRWQ HX HB0 HB1 HB2 HB3 HB4 HNO2 HZZ HIS Hx Hy HF HL HE HTK HAT HFX HSS HHS HLT HFE HEQ
            go_region_with (go_at_call 20; refine (HCL.out _ (by repeat (first | exact Ext.refl _ | refine Ext.drew ?_ | refine Ext.alloc ?_ _))).mono ?_; rintro e w5 ⟨rfl, he5⟩; try (have Hbn := Lib.hid (((Blk.new wr 37 #[.bool false, .int .i64 0]).ext (Ext.refl _).drew).ext he5); have b0 := Hbn.out.cell 0; have b1 := Hbn.out.cell 1; have f0 := Hbn.out.frozen 0; have f1 := Hbn.out.frozen 1; have t0 := fun u => (Hbn.out.set_ 0 u).frozen 1; have t1 := fun u => (Hbn.out.set_ 0 u).cell 1))
            all_goals go_wp2
            all_goals go_meet
            all_goals first
              | exact ⟨_, rfl, rfl, Blk.fill2 Hbn.out (.bool s1) (.int .i64 s2), (res2 Hbn.out (((Ext.refl wr).alloc _).drew.trans he5) (Nat.le_refl _) (.bool s1) (.int .i64 s2)).2.2⟩
              | exact ⟨_, rfl, rfl, Blk.new w5 37 #[.bool s1, .int .i64 s2], ((Ext.refl wr).drew.trans he5).alloc _⟩
          case rest =>
          obtain ⟨n7, rfl, rfl, hb7, hx7⟩ := hcut
          rename World => w7
          have HE7 := Lib.hid (HE.out.trans hx7)
          have d0 : w7.cell? ⟨n7, 0, none⟩ = some (.bool s1) := hb7.cell 0
          have d1 : w7.cell? ⟨n7, 1, none⟩ = some (.int .i64 s2) := hb7.cell 1
          have y0 := hx7.cell y0
          have y1 := hx7.cell y1
          have g2 := hx7.cell g2
          have g3 := hx7.cell g3
          clear hb7 hx7 g0 g1 hA hA2 hP hA1 hA3 hP1 HCL
          cases has with
          | false =>
            have HR := Lib.hid (show ((PL.take (i + 1)).filterMap FF).length = ((PL.take i).filterMap FF).length from by
              have h0 : WM (x1, x2) = none := by
                cases hf : WM (x1, x2) with
                | none => rfl
                | some z => have := HHS.out; rw [hf] at this; cases this
              rw [HTK.out, HFX.out, h0]; simp)
            go_wp2
            exact ⟨⟨i + 1, HLT.out, by go_num, by rw [HR.out, HKE.out], HE7.out⟩, by have := HLT.out; simp [intOf]; omega⟩
          | true =>
            have h0 : FF (x1, x2) = some ((((p1, p2), (x1, x2)), (s1, s2)) : Pl.Ar) := by
              cases hf : WM (x1, x2) with
              | none => have := HHS.out; rw [hf] at this; cases this
              | some z => have := HSS.out; rw [hf] at this; simp only [Option.getD_some] at this; rw [HFX.out, hf, this]; rfl
            have HR := Lib.hid (show ((PL.take (i + 1)).filterMap FF).length = ((PL.take i).filterMap FF).length + 1 from by rw [HTK.out, h0]; simp)
            obtain ⟨hkl, hke⟩ := List.getElem?_eq_some_iff.1 (HAT.out _ h0)
            obtain ⟨bF, oF, hAF, hcF⟩ := RE.at_ (HF.out.ext HE7.out) hkl
            replace hcF : ∀ j u, (encA.enc ((((p1, p2), (x1, x2)), (s1, s2)) : Pl.Ar))[j]? = some u → w7.cell? ⟨bF, oF + k * 6 + j, none⟩ = some u := by rw [← hke]; exact hcF
            have f0 : w7.cell? ⟨bF, oF + k * 6, none⟩ = some (.int .i64 p1) := hcF 0 _ rfl
            have f1 : w7.cell? ⟨bF, oF + k * 6 + 1, none⟩ = some (.int .i64 p2) := hcF 1 _ rfl
            have f2 : w7.cell? ⟨bF, oF + k * 6 + 2, none⟩ = some (.int .i64 x1) := hcF 2 _ rfl
            have f3 : w7.cell? ⟨bF, oF + k * 6 + 3, none⟩ = some (.int .i64 x2) := hcF 3 _ rfl
            have f4 : w7.cell? ⟨bF, oF + k * 6 + 4, none⟩ = some (.bool s1) := hcF 4 _ rfl
            have f5 : w7.cell? ⟨bF, oF + k * 6 + 5, none⟩ = some (.int .i64 s2) := hcF 5 _ rfl
            subst hAF
            have HNE := Lib.hid (show ∀ w, (binOp .neq 39 (.agg #[.int .i64 p1, .int .i64 p2, .int .i64 x1, .int .i64 x2, .bool s1, .int .i64 s2]) (.agg #[.int .i64 p1, .int .i64 p2, .int .i64 x1, .int .i64 x2, .bool s1, .int .i64 s2])).run Try.prog w = .ok (.bool false) w from fun w => by
              have := neArD ((((p1, p2), (x1, x2)), (s1, s2)) : Pl.Ar) ((((p1, p2), (x1, x2)), (s1, s2)) : Pl.Ar) w
              rw [decide_eq_true rfl] at this
              exact this)
            have hkn : ¬ (FL.length : Int) ≤ (k : Int) := by omega
            have hk1 : (k : Int) < (FL.length : Int) := by omega
            have hkn2 : ¬ FL.length ≤ k := by omega
            have hk0 : 0 ≤ (k : Int) := by omega
            clear hcF hke h0 hkl
            go_wp2
            refine wp_regionY [] [] Ext Ext (fun _ => True) (by kernel_rfl) (by rfl) (by rfl) (by kernel_rfl) (by kernel_rfl) (by kernel_rfl) (fun _ _ _ x y => x.trans y) Ext.refl (fun _ _ x => x) (Ext.refl _).drew (fun _ _ x _ => x) trivial ?_
            repeat (first | (refine wpY_move0 rfl rfl (by first | exact runs0 | exact runs1 rfl) Ext.refl rfl rfl rfl ?_; apply Exists.intro; refine ⟨?_, ?_⟩; · (go_simp; rfl)) | (refine wpY_move rfl rfl (by first | exact runs0 | exact runs1 rfl) Ext.refl rfl rfl rfl (fun _ _ _ h _ => h) ?_) | (refine wpY_val rfl rfl (by first | exact runs0 | exact runs1 rfl) Ext.refl rfl ?_; apply Exists.intro; refine ⟨?_, ?_⟩; · (intro a w' hR; (try (intro h1; try have e1 : _ = _ := h1)); (try (intro h2; try have e2 : _ = _ := h2)); (try (intro h3; try have e3 : _ = _ := h3)); go_simp; rfl)) | (refine wpY_skip rfl rfl (by first | exact .inl rfl | exact .inr rfl) ?_))
            refine wpY_val rfl rfl (by first | exact runs0 | exact runs1 rfl) Ext.refl rfl ?_; apply Exists.intro; refine ⟨?_, ?_⟩
            · intro a w' hR h1
              have e1 : _ = _ := h1
              have hl0 := hR.cell f0
              have hl1 := hR.cell f1
              have hl2 := hR.cell f2
              have hl3 := hR.cell f3
              have hl4 := hR.cell f4
              have hl5 := hR.cell f5
              go_simp
              rfl
            refine wpY_val rfl rfl (by first | exact runs0 | exact runs1 rfl) Ext.refl rfl ?_; apply Exists.intro; refine ⟨?_, ?_⟩
            · intro a w' hR h1
              have e1 : _ = _ := h1
              have hl0 := hR.cell g2
              have hl1 := hR.cell g3
              go_simp
              rfl
            repeat (first | (refine wpY_move0 rfl rfl (by first | exact runs0 | exact runs1 rfl) Ext.refl rfl rfl rfl ?_; apply Exists.intro; refine ⟨?_, ?_⟩; · (go_simp; rfl)) | (refine wpY_move rfl rfl (by first | exact runs0 | exact runs1 rfl) Ext.refl rfl rfl rfl (fun _ _ _ h _ => h) ?_) | (refine wpY_val rfl rfl (by first | exact runs0 | exact runs1 rfl) Ext.refl rfl ?_; apply Exists.intro; refine ⟨?_, ?_⟩; · (intro a w' hR; (try (intro h1; try have e1 : _ = _ := h1)); (try (intro h2; try have e2 : _ = _ := h2)); (try (intro h3; try have e3 : _ = _ := h3)); go_simp; rfl)) | (refine wpY_skip rfl rfl (by first | exact .inl rfl | exact .inr rfl) ?_))
            refine wpY_val rfl rfl (by first | exact runs0 | exact runs1 rfl) Ext.refl rfl ?_; apply Exists.intro; refine ⟨?_, ?_⟩
            · intro a w' hR h1
              have e1 : _ = _ := h1
              have hl0 := hR.cell y0
              have hl1 := hR.cell y1
              go_simp
              rfl
            refine wpY_val rfl rfl (by first | exact runs0 | exact runs1 rfl) Ext.refl rfl ?_; apply Exists.intro; refine ⟨?_, ?_⟩
            · intro a w' hR h1
              have e1 : _ = _ := h1
              have hl0 := hR.cell d0
              have hl1 := hR.cell d1
              go_simp
              rfl
            refine wpY_val rfl rfl (by first | exact runs0 | exact runs1 rfl) Ext.refl rfl ?_; apply Exists.intro; refine ⟨?_, ?_⟩
            · intro a w' hR h1 h2 h3
              have e1 : _ = _ := h1
              have e2 : _ = _ := h2
              have e3 : _ = _ := h3
              have q1 := e1; rw [Array.getD_eq_getD_getElem?] at q1
              have q2 := e2; rw [Array.getD_eq_getD_getElem?] at q2
              have q3 := e3; rw [Array.getD_eq_getD_getElem?] at q3
              go_simp
              rfl
            refine wpY_val rfl rfl (by first | exact runs0 | exact runs1 rfl) Ext.refl rfl ?_; apply Exists.intro; refine ⟨?_, ?_⟩
            · intro a w' hR h1 h2
              have e1 : _ = _ := h1
              have e2 : _ = _ := h2
              have hq9 := HNE.out w'
              go_simp
              rfl
            repeat (first | (refine wpY_move0 rfl rfl (by first | exact runs0 | exact runs1 rfl) Ext.refl rfl rfl rfl ?_; apply Exists.intro; refine ⟨?_, ?_⟩; · (go_simp; rfl)) | (refine wpY_move rfl rfl (by first | exact runs0 | exact runs1 rfl) Ext.refl rfl rfl rfl (fun _ _ _ h _ => h) ?_) | (refine wpY_val rfl rfl (by first | exact runs0 | exact runs1 rfl) Ext.refl rfl ?_; apply Exists.intro; refine ⟨?_, ?_⟩; · (intro a w' hR; (try (intro h1; try have e1 : _ = _ := h1)); (try (intro h2; try have e2 : _ = _ := h2)); (try (intro h3; try have e3 : _ = _ := h3)); go_simp; rfl)) | (refine wpY_skip rfl rfl (by first | exact .inl rfl | exact .inr rfl) ?_))
            refine wpY_done ?_
            intro w8 hx8 hS8
            iterate 18 (rintro _ rfl)
            dsimp only [FinV]
            go_simp
            have hx8 : Ext w7 w8 := hx8
            have HE8 := Lib.hid (HE7.out.trans hx8)
            clear hx8 hS8 f0 f1 f2 f3 f4 f5 g2 g3 y0 y1 d0 d1
            go_wp2
            exact ⟨⟨i + 1, HLT.out, by go_num, by rw [HR.out, HKE.out]; go_num, HE8.out⟩, by have := HLT.out; simp [intOf]; omega⟩
        · obtain rfl : i = PL.length := by omega
          have r1 : ¬ (PL.length : Int) < (PL.length : Int) := by omega
          rw [List.take_length, ← HFE.out]
          rename World => w13
          have HX := Lib.hid (HX.out.trans hext)
          have HB0 := Lib.hid (HB0.out.ext hext)
          have HB1 := Lib.hid (HB1.out.ext hext)
          have HB2 := Lib.hid (HB2.out.ext hext)
          have HB3 := Lib.hid (HB3.out.ext hext)
          have HB4 := Lib.hid (HB4.out.ext hext)
          have Hx := Lib.hid (Hx.out.ext hext)
          have Hy := Lib.hid (Hy.out.ext hext)
          clear hext
          have c00 : w13.cell? ⟨bn, 0, none⟩ = some (.slice A l.length c) := HB0.out.cell 0
          have c01 : w13.cell? ⟨bn, 1, none⟩ = some (.int .i64 out) := HB0.out.cell 1
          have c10 : w13.cell? ⟨bn + 1, 0, none⟩ = some (.int .i64 p1) := HB1.out.cell 0
          have c11 : w13.cell? ⟨bn + 1, 1, none⟩ = some (.int .i64 p2) := HB1.out.cell 1
          have c20 : w13.cell? ⟨bn + 1 + 1, 0, none⟩ = some (.int .i64 q1) := HB2.out.cell 0
          have c21 : w13.cell? ⟨bn + 1 + 1, 1, none⟩ = some (.int .i64 q2) := HB2.out.cell 1
          have c30 : w13.cell? ⟨bn + 1 + 1 + 1, 0, none⟩ = some (.int .i64 m1) := HB3.out.cell 0
          have c31 : w13.cell? ⟨bn + 1 + 1 + 1, 1, none⟩ = some (.int .i64 m2) := HB3.out.cell 1
          have c40 : w13.cell? ⟨bn + 1 + 1 + 1 + 1, 0, none⟩ = some (.int .i64 n1) := HB4.out.cell 0
          have c41 : w13.cell? ⟨bn + 1 + 1 + 1 + 1, 1, none⟩ = some (.int .i64 n2) := HB4.out.cell 1
          have x0 : w13.cell? ⟨bx, 0, none⟩ = some (.bool z1) := Hx.out.cell 0
          have x1 : w13.cell? ⟨bx, 1, none⟩ = some (.int .i64 z2) := Hx.out.cell 1
          have y0 : w13.cell? ⟨by_, 0, none⟩ = some (.bool z1) := Hy.out.cell 0
          have y1 : w13.cell? ⟨by_, 1, none⟩ = some (.int .i64 z2) := Hy.out.cell 1
          clear hlt hi
          have HC9 := Lib.hid (HRL.out (by first | rfl | trivial) (by first | rfl | trivial) (by first | rfl | trivial) (by first | rfl | trivial) w13 HX.out)
          generalize FL.length = fln at *
          go_wp2_with fail
          refine HC9.out.mono ?_
          rintro e w14 ⟨rfl, he⟩
          have HX := Lib.hid (HX.out.trans he)
          clear c00 c01 c10 c11 c20 c21 c30 c31 c40 c41 x0 x1 y0 y1
          clear he HC9
          cases iso <;> cases LB
          all_goals (go_wp2; go_ret; exact ⟨rfl, HX.out⟩)
theorem planWays_law (w : World) (v : Value) (x : GArg) (hv : v = gAg x.1.1 x.2.2 ∧ NodesR x.1.2 w x.1.1 x.2.1) (v1 : Value) (p : Pl) (h1 : v1 = plV p) (v2 : Value) (q : Pl) (h2 : v2 = plV q) (v3 : Value) (m : Mom.M) (h3 : v3 = mV m) (v4 : Value) (n : Mom.M) (h4 : v4 = mV n) :
    Calls Try.prog 6 #[v, v1, v2, v3, v4] w fun e w' => e = .returned (.bool true) ∧ Ext w w' := by
  rw [hv.1, h1, h2, h3, h4]
  exact planWays_any x.1.2 x.1.1 x.2 p q m n w hv.2
end Go.Proofs.Ytcacicgkebcdkaa
