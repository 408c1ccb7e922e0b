/-
  PlSteps, packed: what the claim needs of them.
-/
import Derived.Test.YtcacicgkebcdkaaPs43
import Derived.Test.YtcacicgkebcdkaaPs44
namespace Go.Proofs.Ytcacicgkebcdkaa
open Go.RowKit Go.Ox Go.Ox.Gr Mo
set_option linter.unusedVariables false
set_option linter.unusedSimpArgs false
attribute [local irreducible] RE OE NodesR
set_option maxRecDepth 100000 in
set_option maxHeartbeats 8000000 in
theorem planSteps_any (d : Nat) (v : Value) (g : G) (p : Pl.P2) (a : Mom.M) (q : Pl.P2) (b : Mom.M) (r : Pl.P2) (cx : Mom.M) (w : World) (hv : NodesR d w v g.1) :
    Calls Try.prog 4 #[gAg v g.2, plV p, mV a, plV q, mV b, plV r, mV cx] w fun e w' => e = .returned (.bool true) ∧ Ext w w' := by
  have HLG := Lib.hid (fun W (h : Ext w W) => large20_any d v g W (hv.ext h))
  have HLE := Lib.hid (fun (h : Pl.large g = false) p a q b W (hW : Ext w W) => leads_any d v g p a q b W (hv.ext hW) (Pl.large_no h))
  have HTR := Lib.hid (fun (h : Pl.large g = false) h1 h2 => Pl.leads_trans (Pl.large_no h) (p := p) (q := q) (r := r) (a := a) (b := b) (c := cx) h1 h2)
  obtain ⟨l, out⟩ := g
  generalize Pl.large (l, out) = LG at *
  generalize hL1 : Pl.leadsB (l, out) p a q b = L1 at *
  generalize hL2 : Pl.leadsB (l, out) q b r cx = L2 at *
  generalize hL3 : Pl.leadsB (l, out) p a r cx = L3 at *
  have HC1 := Lib.hid (fun (h : LG = false) W (hW : Ext w W) => HLE.out h p a q b W hW)
  have HC2 := Lib.hid (fun (h : LG = false) W (hW : Ext w W) => HLE.out h q b r cx W hW)
  have HC3 := Lib.hid (fun (h : LG = false) W (hW : Ext w W) => HLE.out h p a r cx W hW)
  rw [hL1] at HC1
  rw [hL2] at HC2
  rw [hL3] at HC3
  clear hL1 hL2 hL3 HLE
  obtain ⟨A, c, rfl⟩ := hv.form
  obtain ⟨p1, p2⟩ := p
  obtain ⟨a1, a2⟩ := a
  obtain ⟨q1, q2⟩ := q
  obtain ⟨b1, b2⟩ := b
  obtain ⟨r1, r2⟩ := r
  obtain ⟨cx1, cx2⟩ := cx
  have HX := Lib.hid (show Ext w (((((((w.alloc (.cells #[.slice A l.length c, .int .i64 out] 24)).alloc (.cells #[.int .i64 p1, .int .i64 p2] 26)).alloc (.cells #[.int .i64 a1, .int .i64 a2] 48)).alloc (.cells #[.int .i64 q1, .int .i64 q2] 26)).alloc (.cells #[.int .i64 b1, .int .i64 b2] 48)).alloc (.cells #[.int .i64 r1, .int .i64 r2] 26)).alloc (.cells #[.int .i64 cx1, .int .i64 cx2] 48)) from allocs_ext [(#[.slice A l.length c, .int .i64 out], 24), (#[.int .i64 p1, .int .i64 p2], 26), (#[.int .i64 a1, .int .i64 a2], 48), (#[.int .i64 q1, .int .i64 q2], 26), (#[.int .i64 b1, .int .i64 b2], 48), (#[.int .i64 r1, .int .i64 r2], 26), (#[.int .i64 cx1, .int .i64 cx2], 48)] w)
  have HB0 := Lib.hid (show Blk (((((((w.alloc (.cells #[.slice A l.length c, .int .i64 out] 24)).alloc (.cells #[.int .i64 p1, .int .i64 p2] 26)).alloc (.cells #[.int .i64 a1, .int .i64 a2] 48)).alloc (.cells #[.int .i64 q1, .int .i64 q2] 26)).alloc (.cells #[.int .i64 b1, .int .i64 b2] 48)).alloc (.cells #[.int .i64 r1, .int .i64 r2] 26)).alloc (.cells #[.int .i64 cx1, .int .i64 cx2] 48)) (w.heap.size) 24 #[.slice A l.length c, .int .i64 out] from allocs_at [(#[.slice A l.length c, .int .i64 out], 24), (#[.int .i64 p1, .int .i64 p2], 26), (#[.int .i64 a1, .int .i64 a2], 48), (#[.int .i64 q1, .int .i64 q2], 26), (#[.int .i64 b1, .int .i64 b2], 48), (#[.int .i64 r1, .int .i64 r2], 26), (#[.int .i64 cx1, .int .i64 cx2], 48)] w 0 _ _ rfl)
  have HB1 := Lib.hid (show Blk (((((((w.alloc (.cells #[.slice A l.length c, .int .i64 out] 24)).alloc (.cells #[.int .i64 p1, .int .i64 p2] 26)).alloc (.cells #[.int .i64 a1, .int .i64 a2] 48)).alloc (.cells #[.int .i64 q1, .int .i64 q2] 26)).alloc (.cells #[.int .i64 b1, .int .i64 b2] 48)).alloc (.cells #[.int .i64 r1, .int .i64 r2] 26)).alloc (.cells #[.int .i64 cx1, .int .i64 cx2] 48)) (w.heap.size + 1) 26 #[.int .i64 p1, .int .i64 p2] from allocs_at [(#[.slice A l.length c, .int .i64 out], 24), (#[.int .i64 p1, .int .i64 p2], 26), (#[.int .i64 a1, .int .i64 a2], 48), (#[.int .i64 q1, .int .i64 q2], 26), (#[.int .i64 b1, .int .i64 b2], 48), (#[.int .i64 r1, .int .i64 r2], 26), (#[.int .i64 cx1, .int .i64 cx2], 48)] w 1 _ _ rfl)
  have HB2 := Lib.hid (show Blk (((((((w.alloc (.cells #[.slice A l.length c, .int .i64 out] 24)).alloc (.cells #[.int .i64 p1, .int .i64 p2] 26)).alloc (.cells #[.int .i64 a1, .int .i64 a2] 48)).alloc (.cells #[.int .i64 q1, .int .i64 q2] 26)).alloc (.cells #[.int .i64 b1, .int .i64 b2] 48)).alloc (.cells #[.int .i64 r1, .int .i64 r2] 26)).alloc (.cells #[.int .i64 cx1, .int .i64 cx2] 48)) (w.heap.size + 1 + 1) 48 #[.int .i64 a1, .int .i64 a2] from allocs_at [(#[.slice A l.length c, .int .i64 out], 24), (#[.int .i64 p1, .int .i64 p2], 26), (#[.int .i64 a1, .int .i64 a2], 48), (#[.int .i64 q1, .int .i64 q2], 26), (#[.int .i64 b1, .int .i64 b2], 48), (#[.int .i64 r1, .int .i64 r2], 26), (#[.int .i64 cx1, .int .i64 cx2], 48)] w 2 _ _ rfl)
  have HB3 := Lib.hid (show Blk (((((((w.alloc (.cells #[.slice A l.length c, .int .i64 out] 24)).alloc (.cells #[.int .i64 p1, .int .i64 p2] 26)).alloc (.cells #[.int .i64 a1, .int .i64 a2] 48)).alloc (.cells #[.int .i64 q1, .int .i64 q2] 26)).alloc (.cells #[.int .i64 b1, .int .i64 b2] 48)).alloc (.cells #[.int .i64 r1, .int .i64 r2] 26)).alloc (.cells #[.int .i64 cx1, .int .i64 cx2] 48)) (w.heap.size + 1 + 1 + 1) 26 #[.int .i64 q1, .int .i64 q2] from allocs_at [(#[.slice A l.length c, .int .i64 out], 24), (#[.int .i64 p1, .int .i64 p2], 26), (#[.int .i64 a1, .int .i64 a2], 48), (#[.int .i64 q1, .int .i64 q2], 26), (#[.int .i64 b1, .int .i64 b2], 48), (#[.int .i64 r1, .int .i64 r2], 26), (#[.int .i64 cx1, .int .i64 cx2], 48)] w 3 _ _ rfl)
  have HB4 := Lib.hid (show Blk (((((((w.alloc (.cells #[.slice A l.length c, .int .i64 out] 24)).alloc (.cells #[.int .i64 p1, .int .i64 p2] 26)).alloc (.cells #[.int .i64 a1, .int .i64 a2] 48)).alloc (.cells #[.int .i64 q1, .int .i64 q2] 26)).alloc (.cells #[.int .i64 b1, .int .i64 b2] 48)).alloc (.cells #[.int .i64 r1, .int .i64 r2] 26)).alloc (.cells #[.int .i64 cx1, .int .i64 cx2] 48)) (w.heap.size + 1 + 1 + 1 + 1) 48 #[.int .i64 b1, .int .i64 b2] from allocs_at [(#[.slice A l.length c, .int .i64 out], 24), (#[.int .i64 p1, .int .i64 p2], 26), (#[.int .i64 a1, .int .i64 a2], 48), (#[.int .i64 q1, .int .i64 q2], 26), (#[.int .i64 b1, .int .i64 b2], 48), (#[.int .i64 r1, .int .i64 r2], 26), (#[.int .i64 cx1, .int .i64 cx2], 48)] w 4 _ _ rfl)
  have HB5 := Lib.hid (show Blk (((((((w.alloc (.cells #[.slice A l.length c, .int .i64 out] 24)).alloc (.cells #[.int .i64 p1, .int .i64 p2] 26)).alloc (.cells #[.int .i64 a1, .int .i64 a2] 48)).alloc (.cells #[.int .i64 q1, .int .i64 q2] 26)).alloc (.cells #[.int .i64 b1, .int .i64 b2] 48)).alloc (.cells #[.int .i64 r1, .int .i64 r2] 26)).alloc (.cells #[.int .i64 cx1, .int .i64 cx2] 48)) (w.heap.size + 1 + 1 + 1 + 1 + 1) 26 #[.int .i64 r1, .int .i64 r2] from allocs_at [(#[.slice A l.length c, .int .i64 out], 24), (#[.int .i64 p1, .int .i64 p2], 26), (#[.int .i64 a1, .int .i64 a2], 48), (#[.int .i64 q1, .int .i64 q2], 26), (#[.int .i64 b1, .int .i64 b2], 48), (#[.int .i64 r1, .int .i64 r2], 26), (#[.int .i64 cx1, .int .i64 cx2], 48)] w 5 _ _ rfl)
  have HB6 := Lib.hid (show Blk (((((((w.alloc (.cells #[.slice A l.length c, .int .i64 out] 24)).alloc (.cells #[.int .i64 p1, .int .i64 p2] 26)).alloc (.cells #[.int .i64 a1, .int .i64 a2] 48)).alloc (.cells #[.int .i64 q1, .int .i64 q2] 26)).alloc (.cells #[.int .i64 b1, .int .i64 b2] 48)).alloc (.cells #[.int .i64 r1, .int .i64 r2] 26)).alloc (.cells #[.int .i64 cx1, .int .i64 cx2] 48)) (w.heap.size + 1 + 1 + 1 + 1 + 1 + 1) 48 #[.int .i64 cx1, .int .i64 cx2] from allocs_at [(#[.slice A l.length c, .int .i64 out], 24), (#[.int .i64 p1, .int .i64 p2], 26), (#[.int .i64 a1, .int .i64 a2], 48), (#[.int .i64 q1, .int .i64 q2], 26), (#[.int .i64 b1, .int .i64 b2], 48), (#[.int .i64 r1, .int .i64 r2], 26), (#[.int .i64 cx1, .int .i64 cx2], 48)] w 6 _ _ rfl)
  clear hv
  go_enter Try.func4, Try.ntmps4
  go_upto_region 1 with fail
  generalize w.heap.size = n at *
  generalize ((((((w.alloc (.cells #[.slice A l.length c, .int .i64 out] 24)).alloc (.cells #[.int .i64 p1, .int .i64 p2] 26)).alloc (.cells #[.int .i64 a1, .int .i64 a2] 48)).alloc (.cells #[.int .i64 q1, .int .i64 q2] 26)).alloc (.cells #[.int .i64 b1, .int .i64 b2] 48)).alloc (.cells #[.int .i64 r1, .int .i64 r2] 26)).alloc (.cells #[.int .i64 cx1, .int .i64 cx2] 48) = w0 at *
  have c00 : w0.cell? ⟨n, 0, none⟩ = some (.slice A l.length c) := HB0.out.cell 0
  have c01 : w0.cell? ⟨n, 1, none⟩ = some (.int .i64 out) := HB0.out.cell 1
  have c10 : w0.cell? ⟨n + 1, 0, none⟩ = some (.int .i64 p1) := HB1.out.cell 0
  have c11 : w0.cell? ⟨n + 1, 1, none⟩ = some (.int .i64 p2) := HB1.out.cell 1
  have c20 : w0.cell? ⟨n + 1 + 1, 0, none⟩ = some (.int .i64 a1) := HB2.out.cell 0
  have c21 : w0.cell? ⟨n + 1 + 1, 1, none⟩ = some (.int .i64 a2) := HB2.out.cell 1
  have c30 : w0.cell? ⟨n + 1 + 1 + 1, 0, none⟩ = some (.int .i64 q1) := HB3.out.cell 0
  have c31 : w0.cell? ⟨n + 1 + 1 + 1, 1, none⟩ = some (.int .i64 q2) := HB3.out.cell 1
  have c40 : w0.cell? ⟨n + 1 + 1 + 1 + 1, 0, none⟩ = some (.int .i64 b1) := HB4.out.cell 0
  have c41 : w0.cell? ⟨n + 1 + 1 + 1 + 1, 1, none⟩ = some (.int .i64 b2) := HB4.out.cell 1
  have c50 : w0.cell? ⟨n + 1 + 1 + 1 + 1 + 1, 0, none⟩ = some (.int .i64 r1) := HB5.out.cell 0
  have c51 : w0.cell? ⟨n + 1 + 1 + 1 + 1 + 1, 1, none⟩ = some (.int .i64 r2) := HB5.out.cell 1
  have c60 : w0.cell? ⟨n + 1 + 1 + 1 + 1 + 1 + 1, 0, none⟩ = some (.int .i64 cx1) := HB6.out.cell 0
  have c61 : w0.cell? ⟨n + 1 + 1 + 1 + 1 + 1 + 1, 1, none⟩ = some (.int .i64 cx2) := HB6.out.cell 1
  go_wp2_with fail
  refine (HLG.out w0 HX.out).mono ?_
  rintro e w1 ⟨rfl, he⟩
  clear c00 c01 c10 c11 c20 c21 c30 c31 c40 c41 c50 c51 c60 c61
  have HX := Lib.hid (HX.out.trans he)
  have HB0 := Lib.hid (HB0.out.ext he)
  have HB1 := Lib.hid (HB1.out.ext he)
  have HB2 := Lib.hid (HB2.out.ext he)
  have HB3 := Lib.hid (HB3.out.ext he)
  have HB4 := Lib.hid (HB4.out.ext he)
  have HB5 := Lib.hid (HB5.out.ext he)
  have HB6 := Lib.hid (HB6.out.ext he)
  clear he
  cases LG with
  | true =>
    go_wp2_with fail
    refine (lives20_any w1).mono ?_
    rintro e w2 ⟨rfl, he⟩
    have HX := Lib.hid (HX.out.trans he)
    clear he
    go_wp2
    go_ret
    exact ⟨rfl, HX.out⟩
  | false =>
    go_wp2_with fail
    refine (lives20_any w1).mono ?_
    rintro e w2 ⟨rfl, he⟩
    have HX := Lib.hid (HX.out.trans he)
    have HB0 := Lib.hid (HB0.out.ext he)
    have HB1 := Lib.hid (HB1.out.ext he)
    have HB2 := Lib.hid (HB2.out.ext he)
    have HB3 := Lib.hid (HB3.out.ext he)
    have HB4 := Lib.hid (HB4.out.ext he)
    have HB5 := Lib.hid (HB5.out.ext he)
    have HB6 := Lib.hid (HB6.out.ext he)
    clear he
    have c00 : w2.cell? ⟨n, 0, none⟩ = some (.slice A l.length c) := HB0.out.cell 0
    have c01 : w2.cell? ⟨n, 1, none⟩ = some (.int .i64 out) := HB0.out.cell 1
    have c10 : w2.cell? ⟨n + 1, 0, none⟩ = some (.int .i64 p1) := HB1.out.cell 0
    have c11 : w2.cell? ⟨n + 1, 1, none⟩ = some (.int .i64 p2) := HB1.out.cell 1
    have c20 : w2.cell? ⟨n + 1 + 1, 0, none⟩ = some (.int .i64 a1) := HB2.out.cell 0
    have c21 : w2.cell? ⟨n + 1 + 1, 1, none⟩ = some (.int .i64 a2) := HB2.out.cell 1
    have c30 : w2.cell? ⟨n + 1 + 1 + 1, 0, none⟩ = some (.int .i64 q1) := HB3.out.cell 0
    have c31 : w2.cell? ⟨n + 1 + 1 + 1, 1, none⟩ = some (.int .i64 q2) := HB3.out.cell 1
    have c40 : w2.cell? ⟨n + 1 + 1 + 1 + 1, 0, none⟩ = some (.int .i64 b1) := HB4.out.cell 0
    have c41 : w2.cell? ⟨n + 1 + 1 + 1 + 1, 1, none⟩ = some (.int .i64 b2) := HB4.out.cell 1
    have c50 : w2.cell? ⟨n + 1 + 1 + 1 + 1 + 1, 0, none⟩ = some (.int .i64 r1) := HB5.out.cell 0
    have c51 : w2.cell? ⟨n + 1 + 1 + 1 + 1 + 1, 1, none⟩ = some (.int .i64 r2) := HB5.out.cell 1
    have c60 : w2.cell? ⟨n + 1 + 1 + 1 + 1 + 1 + 1, 0, none⟩ = some (.int .i64 cx1) := HB6.out.cell 0
    have c61 : w2.cell? ⟨n + 1 + 1 + 1 + 1 + 1 + 1, 1, none⟩ = some (.int .i64 cx2) := HB6.out.cell 1
    go_wp2_with fail
    refine (HC1.out (by first | rfl | trivial) w2 HX.out).mono ?_
    rintro e w3 ⟨rfl, he⟩
    clear c00 c01 c10 c11 c20 c21 c30 c31 c40 c41 c50 c51 c60 c61
    have HX := Lib.hid (HX.out.trans he)
    have HB0 := Lib.hid (HB0.out.ext he)
    have HB1 := Lib.hid (HB1.out.ext he)
    have HB2 := Lib.hid (HB2.out.ext he)
    have HB3 := Lib.hid (HB3.out.ext he)
    have HB4 := Lib.hid (HB4.out.ext he)
    have HB5 := Lib.hid (HB5.out.ext he)
    have HB6 := Lib.hid (HB6.out.ext he)
    clear he
    cases L1 with
    | false =>
      go_wp2
      go_ret
      exact ⟨rfl, HX.out⟩
    | true =>
      have c00 : w3.cell? ⟨n, 0, none⟩ = some (.slice A l.length c) := HB0.out.cell 0
      have c01 : w3.cell? ⟨n, 1, none⟩ = some (.int .i64 out) := HB0.out.cell 1
      have c10 : w3.cell? ⟨n + 1, 0, none⟩ = some (.int .i64 p1) := HB1.out.cell 0
      have c11 : w3.cell? ⟨n + 1, 1, none⟩ = some (.int .i64 p2) := HB1.out.cell 1
      have c20 : w3.cell? ⟨n + 1 + 1, 0, none⟩ = some (.int .i64 a1) := HB2.out.cell 0
      have c21 : w3.cell? ⟨n + 1 + 1, 1, none⟩ = some (.int .i64 a2) := HB2.out.cell 1
      have c30 : w3.cell? ⟨n + 1 + 1 + 1, 0, none⟩ = some (.int .i64 q1) := HB3.out.cell 0
      have c31 : w3.cell? ⟨n + 1 + 1 + 1, 1, none⟩ = some (.int .i64 q2) := HB3.out.cell 1
      have c40 : w3.cell? ⟨n + 1 + 1 + 1 + 1, 0, none⟩ = some (.int .i64 b1) := HB4.out.cell 0
      have c41 : w3.cell? ⟨n + 1 + 1 + 1 + 1, 1, none⟩ = some (.int .i64 b2) := HB4.out.cell 1
      have c50 : w3.cell? ⟨n + 1 + 1 + 1 + 1 + 1, 0, none⟩ = some (.int .i64 r1) := HB5.out.cell 0
      have c51 : w3.cell? ⟨n + 1 + 1 + 1 + 1 + 1, 1, none⟩ = some (.int .i64 r2) := HB5.out.cell 1
      have c60 : w3.cell? ⟨n + 1 + 1 + 1 + 1 + 1 + 1, 0, none⟩ = some (.int .i64 cx1) := HB6.out.cell 0
      have c61 : w3.cell? ⟨n + 1 + 1 + 1 + 1 + 1 + 1, 1, none⟩ = some (.int .i64 cx2) := HB6.out.cell 1
      go_wp2_with fail
      refine (HC2.out (by first | rfl | trivial) w3 HX.out).mono ?_
      rintro e w4 ⟨rfl, he⟩
      clear c00 c01 c10 c11 c20 c21 c30 c31 c40 c41 c50 c51 c60 c61
      have HX := Lib.hid (HX.out.trans he)
      have HB0 := Lib.hid (HB0.out.ext he)
      have HB1 := Lib.hid (HB1.out.ext he)
      have HB2 := Lib.hid (HB2.out.ext he)
      have HB3 := Lib.hid (HB3.out.ext he)
      have HB4 := Lib.hid (HB4.out.ext he)
      have HB5 := Lib.hid (HB5.out.ext he)
      have HB6 := Lib.hid (HB6.out.ext he)
      clear he
      cases L2 with
      | false =>
        go_wp2
        go_ret
        exact ⟨rfl, HX.out⟩
      | true =>
        have c00 : w4.cell? ⟨n, 0, none⟩ = some (.slice A l.length c) := HB0.out.cell 0
        have c01 : w4.cell? ⟨n, 1, none⟩ = some (.int .i64 out) := HB0.out.cell 1
        have c10 : w4.cell? ⟨n + 1, 0, none⟩ = some (.int .i64 p1) := HB1.out.cell 0
        have c11 : w4.cell? ⟨n + 1, 1, none⟩ = some (.int .i64 p2) := HB1.out.cell 1
        have c20 : w4.cell? ⟨n + 1 + 1, 0, none⟩ = some (.int .i64 a1) := HB2.out.cell 0
        have c21 : w4.cell? ⟨n + 1 + 1, 1, none⟩ = some (.int .i64 a2) := HB2.out.cell 1
        have c30 : w4.cell? ⟨n + 1 + 1 + 1, 0, none⟩ = some (.int .i64 q1) := HB3.out.cell 0
        have c31 : w4.cell? ⟨n + 1 + 1 + 1, 1, none⟩ = some (.int .i64 q2) := HB3.out.cell 1
        have c40 : w4.cell? ⟨n + 1 + 1 + 1 + 1, 0, none⟩ = some (.int .i64 b1) := HB4.out.cell 0
        have c41 : w4.cell? ⟨n + 1 + 1 + 1 + 1, 1, none⟩ = some (.int .i64 b2) := HB4.out.cell 1
        have c50 : w4.cell? ⟨n + 1 + 1 + 1 + 1 + 1, 0, none⟩ = some (.int .i64 r1) := HB5.out.cell 0
        have c51 : w4.cell? ⟨n + 1 + 1 + 1 + 1 + 1, 1, none⟩ = some (.int .i64 r2) := HB5.out.cell 1
        have c60 : w4.cell? ⟨n + 1 + 1 + 1 + 1 + 1 + 1, 0, none⟩ = some (.int .i64 cx1) := HB6.out.cell 0
        have c61 : w4.cell? ⟨n + 1 + 1 + 1 + 1 + 1 + 1, 1, none⟩ = some (.int .i64 cx2) := HB6.out.cell 1
        go_wp2_with fail
        refine (HC3.out (by first | rfl | trivial) w4 HX.out).mono ?_
        rintro e w5 ⟨rfl, he⟩
        have HX := Lib.hid (HX.out.trans he)
        rw [HTR.out (by first | rfl | trivial) (by first | rfl | trivial) (by first | rfl | trivial)]
        go_wp2
        go_ret
        exact ⟨rfl, HX.out⟩
theorem planSteps_law (w : World) (v : Value) (x : GArg) (hv : v = gAg x.1.1 x.2.2 ∧ NodesR x.1.2 w x.1.1 x.2.1) (v1 : Value) (p : Pl) (h1 : v1 = plV p) (v2 : Value) (a : Mom.M) (h2 : v2 = mV a) (v3 : Value) (q : Pl) (h3 : v3 = plV q) (v4 : Value) (b : Mom.M) (h4 : v4 = mV b) (v5 : Value) (r : Pl) (h5 : v5 = plV r) (v6 : Value) (c : Mom.M) (h6 : v6 = mV c) :
    Calls Try.prog 4 #[v, v1, v2, v3, v4, v5, v6] w fun e w' => e = .returned (.bool true) ∧ Ext w w' := by
  rw [hv.1, h1, h2, h3, h4, h5, h6]
  exact planSteps_any x.1.2 x.1.1 x.2 p a q b r c w hv.2
end Go.Proofs.Ytcacicgkebcdkaa
