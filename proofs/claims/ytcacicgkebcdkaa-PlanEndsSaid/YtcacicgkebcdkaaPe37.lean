/-
  PlWay, PlLeads, packed: what the claim needs of them.
-/
import Derived.Test.YtcacicgkebcdkaaPe36
set_option linter.unusedSimpArgs false
set_option linter.unusedVariables false
set_option maxRecDepth 100000
namespace Go.Ox.Pl
open Go.Ox.Gr Go.Proofs.Ytcacicgkebcdkaa
def wayO (g : G) (p q : P2) : Option Wy := if (gNd g p).isSome = true ∧ (gNd g q).isSome = true then wayM g p q else none
end Go.Ox.Pl
namespace Go.Proofs.Ytcacicgkebcdkaa
open Go.RowKit Go.Ox Go.Ox.Gr Mo
structure BW4 (w : World) (n : Nat) (gv : Value) (out p1 p2 q1 q2 : Int) : Prop where
  g : Blk w n 24 #[gv, .int .i64 out]
  p : Blk w (n + 1) 26 #[.int .i64 p1, .int .i64 p2]
  q : Blk w (n + 1 + 1) 26 #[.int .i64 q1, .int .i64 q2]
  r : Blk w (n + 1 + 1 + 1) 37 #[.bool false, .int .i64 0]
abbrev wBW4 (w : World) (gv : Value) (out p1 p2 q1 q2 : Int) : World := (((w.alloc (gCs gv out)).alloc (.cells #[.int .i64 p1, .int .i64 p2] 26)).alloc (.cells #[.int .i64 q1, .int .i64 q2] 26)).alloc (.cells #[.bool false, .int .i64 0] 37)
theorem BW4.new (w : World) (gv : Value) (out p1 p2 q1 q2 : Int) : BW4 (wBW4 w gv out p1 p2 q1 q2) w.heap.size gv out p1 p2 q1 q2 ∧ Ext w (wBW4 w gv out p1 p2 q1 q2) := by
  have e1 : (w.alloc (gCs gv out)).heap.size = w.heap.size + 1 := by simp
  have e2 : ((w.alloc (gCs gv out)).alloc (.cells #[.int .i64 p1, .int .i64 p2] 26)).heap.size = w.heap.size + 1 + 1 := by simp
  have e3 : (((w.alloc (gCs gv out)).alloc (.cells #[.int .i64 p1, .int .i64 p2] 26)).alloc (.cells #[.int .i64 q1, .int .i64 q2] 26)).heap.size = w.heap.size + 1 + 1 + 1 := by simp
  have b0 := Blk.new w 24 #[gv, .int .i64 out]
  have b1 := Blk.new (w.alloc (gCs gv out)) 26 #[.int .i64 p1, .int .i64 p2]
  have b2 := Blk.new ((w.alloc (gCs gv out)).alloc (.cells #[.int .i64 p1, .int .i64 p2] 26)) 26 #[.int .i64 q1, .int .i64 q2]
  have b3 := Blk.new (((w.alloc (gCs gv out)).alloc (.cells #[.int .i64 p1, .int .i64 p2] 26)).alloc (.cells #[.int .i64 q1, .int .i64 q2] 26)) 37 #[.bool false, .int .i64 0]
  rw [e1] at b1
  rw [e2] at b2
  rw [e3] at b3
  exact ⟨⟨((b0.ext ((Ext.refl _).alloc _)).ext ((Ext.refl _).alloc _)).ext ((Ext.refl _).alloc _), (b1.ext ((Ext.refl _).alloc _)).ext ((Ext.refl _).alloc _), b2.ext ((Ext.refl _).alloc _), b3⟩, ((((Ext.refl w).alloc _).alloc _).alloc _).alloc _⟩
theorem BW4.ext {w w' : World} {n : Nat} {gv : Value} {out p1 p2 q1 q2 : Int} (h : BW4 w n gv out p1 p2 q1 q2) (he : Ext w w') : BW4 w' n gv out p1 p2 q1 q2 := ⟨h.g.ext he, h.p.ext he, h.q.ext he, h.r.ext he⟩
theorem BW4.cells {w : World} {n : Nat} {gv : Value} {out p1 p2 q1 q2 : Int} (h : BW4 w n gv out p1 p2 q1 q2) : w.cell? ⟨n, 0, none⟩ = some gv ∧ w.cell? ⟨n, 1, none⟩ = some (.int .i64 out) ∧ w.cell? ⟨n + 1, 0, none⟩ = some (.int .i64 p1) ∧ w.cell? ⟨n + 1, 1, none⟩ = some (.int .i64 p2) ∧ w.cell? ⟨n + 1 + 1, 0, none⟩ = some (.int .i64 q1) ∧ w.cell? ⟨n + 1 + 1, 1, none⟩ = some (.int .i64 q2) :=
  ⟨h.g.cell 0, h.g.cell 1, h.p.cell 0, h.p.cell 1, h.q.cell 0, h.q.cell 1⟩
theorem BW4.rs {w : World} {n : Nat} {gv : Value} {out p1 p2 q1 q2 : Int} (h : BW4 w n gv out p1 p2 q1 q2) : w.cell? ⟨n + 1 + 1 + 1, 0, none⟩ = some (.bool false) ∧ w.cell? ⟨n + 1 + 1 + 1, 1, none⟩ = some (.int .i64 0) ∧ w.frozen? ⟨n + 1 + 1 + 1, 0, none⟩ = false ∧ w.frozen? ⟨n + 1 + 1 + 1, 1, none⟩ = false ∧
    (∀ u, (w.setCell ⟨n + 1 + 1 + 1, 0, none⟩ u).frozen? ⟨n + 1 + 1 + 1, 1, none⟩ = false) ∧ (∀ u, (w.setCell ⟨n + 1 + 1 + 1, 0, none⟩ u).cell? ⟨n + 1 + 1 + 1, 1, none⟩ = some (.int .i64 0)) :=
  ⟨h.r.cell 0, h.r.cell 1, h.r.frozen 0, h.r.frozen 1, fun u => (h.r.set_ 0 u).frozen 1, fun u => (h.r.set_ 0 u).cell 1⟩
attribute [local irreducible] RE OE NodesR WM
set_option maxHeartbeats 4000000 in
theorem way_any (d : Nat) (v : Value) (g : G) (p q : Pl.P2) (w : World) (hv : NodesR d w v g.1) (hn : (gPl g).length ≤ 20) :
    Calls Try.prog 18 #[gAg v g.2, plV p, plV q] w fun e w' => e = .returned (.tuple #[wV ((Pl.wayO g p q).getD (false, 0)), .bool (Pl.wayO g p q).isSome]) ∧ Ext w w' := by
  have HND := Lib.hid (fun p W (h : Ext w W) => gNode_any d v g p W (hv.ext h))
  have HNDP := Lib.hid (HND.out p)
  have HNDQ := Lib.hid (HND.out q)
  clear HND
  have HWY := Lib.hid (fun (hp : (gNd g p).isSome = true) W (h : Ext w W) => ways_any d v g p W (hv.ext h) hn (Pl.nd_pl hp))
  have HWO := Lib.hid (show Pl.wayO g p q = if (gNd g p).isSome = true ∧ (gNd g q).isSome = true then Pl.wayM g p q else none from rfl)
  obtain ⟨l, out⟩ := g
  generalize Pl.wayO (l, out) p q = WO at *
  generalize Pl.wayM (l, out) p = M at *
  generalize (gNd (l, out) p).getD default = nd at *
  generalize (gNd (l, out) q).getD default = nq at *
  generalize (gNd (l, out) p).isSome = sp at *
  generalize (gNd (l, out) q).isSome = sq at *
  obtain ⟨A, c, rfl⟩ := hv.form
  obtain ⟨p1, p2⟩ := p
  obtain ⟨q1, q2⟩ := q
  obtain ⟨op, ins, kind, fa, a, body⟩ := nd
  obtain ⟨op', ins', kind', fa', a', body'⟩ := nq
  have h0 : BW4 ((((w.alloc (gCs (.slice A l.length c) out)).alloc (.cells #[.int .i64 p1, .int .i64 p2] 26)).alloc (.cells #[.int .i64 q1, .int .i64 q2] 26)).alloc (.cells #[.bool false, .int .i64 0] 37)) w.heap.size (.slice A l.length c) out p1 p2 q1 q2 ∧ Ext w ((((w.alloc (gCs (.slice A l.length c) out)).alloc (.cells #[.int .i64 p1, .int .i64 p2] 26)).alloc (.cells #[.int .i64 q1, .int .i64 q2] 26)).alloc (.cells #[.bool false, .int .i64 0] 37)) := BW4.new w (.slice A l.length c) out p1 p2 q1 q2
  have HB0 := Lib.hid h0.1
  have HX0 := Lib.hid h0.2
  clear h0 hv hn
  go_enter Try.func18, Try.ntmps18
  go_upto_region 1 with fail
  obtain ⟨n, hn⟩ : ∃ n, n = w.heap.size := ⟨_, rfl⟩
  rw [← hn] at HB0 ⊢
  have HPS := Lib.hid (show w.heap.size ≤ n + 1 + 1 + 1 from by omega)
  clear hn
  generalize (((w.alloc (gCs (.slice A l.length c) out)).alloc (.cells #[.int .i64 p1, .int .i64 p2] 26)).alloc (.cells #[.int .i64 q1, .int .i64 q2] 26)).alloc (.cells #[.bool false, .int .i64 0] 37) = w0 at *
  obtain ⟨c0, c1, c2, c3, c4, c5⟩ := HB0.out.cells
  go_wp2_with fail
  refine (HNDP.out w0 HX0.out).mono ?_
  rintro e w1 ⟨u9, b9, rfl, hu9, hb9, he1⟩
  simp only [Nd.op, Nd.kind, Nd.fa, Nd.a, Nd.ins, Nd.body] at hu9 hb9 ⊢
  obtain ⟨A9, c9, rfl⟩ := hu9.form
  obtain ⟨A8, c8, rfl⟩ := hb9.form
  have hx2 := he1.alloc (ndCs op kind fa a (.slice A9 ins.length c9) (.slice A8 body.length c8))
  have HX2 := Lib.hid (HX0.out.trans hx2)
  have HB2 := Lib.hid (HB0.out.ext hx2)
  clear hu9 hb9 he1 hx2 c0 c1 c2 c3 c4 c5 HX0 HB0
  go_upto_region 2 with fail
  generalize w1.alloc (ndCs op kind fa a (.slice A9 ins.length c9) (.slice A8 body.length c8)) = w2 at *
  obtain ⟨c0, c1, c2, c3, c4, c5⟩ := HB2.out.cells
  go_wp2_with fail
  refine (HNDQ.out w2 HX2.out).mono ?_
  rintro e w3 ⟨u7, b7, rfl, hu7, hb7, he3⟩
  simp only [Nd.op, Nd.kind, Nd.fa, Nd.a, Nd.ins, Nd.body] at hu7 hb7 ⊢
  obtain ⟨A7, c7, rfl⟩ := hu7.form
  obtain ⟨A6, c6, rfl⟩ := hb7.form
  have hx4 := he3.alloc (ndCs op' kind' fa' a' (.slice A7 ins'.length c7) (.slice A6 body'.length c6))
  have HX4 := Lib.hid (HX2.out.trans hx4)
  have HB4 := Lib.hid (HB2.out.ext hx4)
  clear hu7 hb7 he3 hx4 c0 c1 c2 c3 c4 c5 HX2 HB2
  go_upto_region 3 with fail
  generalize w3.alloc (ndCs op' kind' fa' a' (.slice A7 ins'.length c7) (.slice A6 body'.length c6)) = w4 at *
  obtain ⟨r0, r1, f0, f1, t0, t1⟩ := HB4.out.rs
  cases sp with
  | false =>
    have HW := Lib.hid (show WO = none from by rw [HWO.out]; simp)
    go_wp2
    obtain ⟨y0, y1, hy⟩ := res2 HB4.out.r HX4.out HPS.out (.bool false) (.int .i64 0)
    generalize ((w4.setCell ⟨n + 1 + 1 + 1, 0, none⟩ (.bool false)).setCell ⟨n + 1 + 1 + 1, 1, none⟩ (.int .i64 0)) = wz at *
    exact bodyPost_ret (v := .tuple #[wV (false, 0), .bool false]) (by simp [results, Try.results18, go_sem, y0, y1]) rfl ⟨by rw [HW.out]; rfl, hy⟩
  | true =>
    cases sq with
    | false =>
      have HW := Lib.hid (show WO = none from by rw [HWO.out]; simp)
      go_wp2
      obtain ⟨y0, y1, hy⟩ := res2 HB4.out.r HX4.out HPS.out (.bool false) (.int .i64 0)
      generalize ((w4.setCell ⟨n + 1 + 1 + 1, 0, none⟩ (.bool false)).setCell ⟨n + 1 + 1 + 1, 1, none⟩ (.int .i64 0)) = wz at *
      exact bodyPost_ret (v := .tuple #[wV (false, 0), .bool false]) (by simp [results, Try.results18, go_sem, y0, y1]) rfl ⟨by rw [HW.out]; rfl, hy⟩
    | true =>
      have HW := Lib.hid (show WO = M (q1, q2) from by rw [HWO.out]; simp)
      have HWYA := Lib.hid (HWY.out rfl)
      have HWYX := Lib.hid (fun W (hW : Ext w4 W) => HWYA.out W (HX4.out.trans hW))
      clear r0 r1 f0 f1 t0 t1
      obtain ⟨c0, c1, c2, c3, c4, c5⟩ := HB4.out.cells
      obtain ⟨z1, z2, hzz⟩ : ∃ z1 z2, (M (q1, q2)).getD (false, 0) = (z1, z2) := ⟨_, _, rfl⟩
      obtain ⟨hz, hhz⟩ : ∃ hz, (M (q1, q2)).isSome = hz := ⟨_, rfl⟩
      have HZZ := Lib.hid hzz
      have HHZ := Lib.hid hhz
      clear hzz hhz
      have HR4 := Lib.hid HB4.out.r
      clear HB4
      generalize n + 1 + 1 + 1 = nr at *
      generalize n + 1 + 1 = nq at *
      generalize n + 1 = np at *
      have hA := World.block_lt_of_cell? w4 _ c0
      have hB := World.block_lt_of_cell? w4 _ c2
      have hC := World.block_lt_of_cell? w4 _ c4
      simp only at hA hB hC
      have hA1 : ¬ n = w4.heap.size := by omega
      have hB1 : ¬ np = w4.heap.size := by omega
      have hC1 : ¬ nq = w4.heap.size := by omega
      go_upto_region 5 with fail
      go_cut [12, 9] (fun s12 s9 wx => ∃ m, s12 = .pointer (some ⟨m, 0, none⟩) ∧ s9 = .bool hz ∧ w4.heap.size ≤ m ∧ Blk wx m 37 #[.bool z1, .int .i64 z2] ∧ Ext w4 wx)
      case first =>
        clear HR4 HX4 HNDP HNDQ HWO HW
        go_region_with (go_at_call 45; refine (HWYX.out _ (by repeat (first | exact Ext.refl _ | refine Ext.drew ?_ | refine Ext.alloc ?_ _))).mono ?_; rintro e w5 ⟨b5, rfl, hm5, he5⟩; have hx45 : Ext w4 w5 := Ext.trans (by repeat (first | exact Ext.refl _ | refine Ext.drew ?_ | refine Ext.alloc ?_ _)) he5; have d0 := hx45.cell c0; have d1 := hx45.cell c1; have d2 := hx45.cell c2; have d3 := hx45.cell c3; have d4 := hx45.cell c4; have d5 := hx45.cell c5; have hsz := hx45.size; have hA5 : ¬ n = w5.heap.size := (by omega); have hB5 : ¬ np = w5.heap.size := (by omega); have hC5 : ¬ nq = w5.heap.size := (by omega); have hxa : Ext w5 (w5.alloc (.cells #[.bool false, .int .i64 0] 37)) := ((Ext.refl w5).alloc _); have g4 := hxa.cell d4; have g5 := hxa.cell d5; have lk1 : (Instr.lookup 81 (.map (some b5)) (.agg #[.int .i64 q1, .int .i64 q2]) true).run Try.prog w5 = .ok (.tuple #[.agg #[.bool z1, .int .i64 z2], .bool hz]) w5 := (by have h := hm5.look (q1, q2); rw [HZZ.out, HHZ.out] at h; exact h); have lk2 : (Instr.lookup 81 (.map (some b5)) (.agg #[.int .i64 q1, .int .i64 q2]) true).run Try.prog (w5.alloc (.cells #[.bool false, .int .i64 0] 37)) = .ok (.tuple #[.agg #[.bool z1, .int .i64 z2], .bool hz]) (w5.alloc (.cells #[.bool false, .int .i64 0] 37)) := (by have h := (hm5.ext ((Ext.refl w5).alloc (.cells #[.bool false, .int .i64 0] 37))).look (q1, q2); rw [HZZ.out, HHZ.out] at h; exact h); try (have HBN := Lib.hid (((Blk.new w4 37 #[.bool false, .int .i64 0]).ext (Ext.refl _).drew).ext he5); have b0 := HBN.out.cell 0; have b1 := HBN.out.cell 1; have f0 := HBN.out.frozen 0; have f1 := HBN.out.frozen 1; have t0 := (HBN.out.set_ 0 (.bool z1)).frozen 1; have t1 := (HBN.out.set_ 0 (.bool z1)).cell 1))
        all_goals go_wp2
        all_goals go_meet
        all_goals first
          | exact ⟨_, rfl, rfl, Nat.le_refl _, (HBN.out.set_ 0 (.bool z1)).set_ 1 (.int .i64 z2), (hx45.setCell (p := ⟨w4.heap.size, 0, none⟩) (Nat.le_refl _) (.bool z1)).setCell (p := ⟨w4.heap.size, 1, none⟩) (Nat.le_refl _) (.int .i64 z2)⟩
          | exact ⟨_, rfl, rfl, hx45.size, Blk.new w5 37 #[.bool z1, .int .i64 z2], hx45.alloc _⟩
      case rest =>
      obtain ⟨m, rfl, rfl, hm, hbm, hx5⟩ := hcut
      rename World => w6
      have HX6 := Lib.hid (HX4.out.trans hx5)
      have HR6 := Lib.hid (HR4.out.ext hx5)
      have b0 : w6.cell? ⟨m, 0, none⟩ = some (.bool z1) := hbm.cell 0
      have b1 : w6.cell? ⟨m, 1, none⟩ = some (.int .i64 z2) := hbm.cell 1
      have r0 := HR6.out.cell 0
      have r1 := HR6.out.cell 1
      have f0 := HR6.out.frozen 0
      have f1 := HR6.out.frozen 1
      have t0 := fun u => (HR6.out.set_ 0 u).frozen 1
      have t1 := fun u => (HR6.out.set_ 0 u).cell 1
      clear c0 c1 c2 c3 c4 c5 hA hB hC hA1 hB1 hC1 hm hbm hx5
      go_wp2
      obtain ⟨y0, y1, hy⟩ := res2 HR6.out HX6.out HPS.out (.bool z1) (.int .i64 z2)
      generalize ((w6.setCell ⟨nr, 0, none⟩ (.bool z1)).setCell ⟨nr, 1, none⟩ (.int .i64 z2)) = wz at *
      exact bodyPost_ret (v := .tuple #[wV (z1, z2), .bool hz]) (by simp [results, Try.results18, go_sem, y0, y1]) rfl ⟨by rw [HW.out, HZZ.out, HHZ.out], hy⟩
end Go.Proofs.Ytcacicgkebcdkaa
namespace Go.Ox.Pl
open Go.Ox.Gr Go.Proofs.Ytcacicgkebcdkaa Go.Proofs.Ytcacicgkebcdkaa.Mo
def leadsW (o : Option Wy) (m n : Mom.M) : Bool := match o with | none => false | some w => Mom.ok n && (decide ((walkM w m).2 = 0) && Mom.ahead (walkM w m).1 n)
def leadsB (g : G) (p : P2) (m : Mom.M) (q : P2) (n : Mom.M) : Bool := leadsW (wayO g p q) m n
end Go.Ox.Pl
namespace Go.Proofs.Ytcacicgkebcdkaa
open Go.RowKit Go.Ox Go.Ox.Gr Mo
structure B5 (w : World) (n : Nat) (gv : Value) (out p1 p2 m1 m2 q1 q2 n1 n2 : Int) : Prop where
  g : Blk w n 24 #[gv, .int .i64 out]
  p : Blk w (n + 1) 26 #[.int .i64 p1, .int .i64 p2]
  m : Blk w (n + 1 + 1) 48 #[.int .i64 m1, .int .i64 m2]
  q : Blk w (n + 1 + 1 + 1) 26 #[.int .i64 q1, .int .i64 q2]
  n : Blk w (n + 1 + 1 + 1 + 1) 48 #[.int .i64 n1, .int .i64 n2]
theorem B5.ext {w w' : World} {n : Nat} {gv : Value} {out p1 p2 m1 m2 q1 q2 n1 n2 : Int} (h : B5 w n gv out p1 p2 m1 m2 q1 q2 n1 n2) (he : Ext w w') : B5 w' n gv out p1 p2 m1 m2 q1 q2 n1 n2 := ⟨h.g.ext he, h.p.ext he, h.m.ext he, h.q.ext he, h.n.ext he⟩
theorem B5.cells {w : World} {n : Nat} {gv : Value} {out p1 p2 m1 m2 q1 q2 n1 n2 : Int} (h : B5 w n gv out p1 p2 m1 m2 q1 q2 n1 n2) : w.cell? ⟨n, 0, none⟩ = some gv ∧ w.cell? ⟨n, 1, none⟩ = some (.int .i64 out) ∧ w.cell? ⟨n + 1, 0, none⟩ = some (.int .i64 p1) ∧ w.cell? ⟨n + 1, 1, none⟩ = some (.int .i64 p2) ∧
    w.cell? ⟨n + 1 + 1, 0, none⟩ = some (.int .i64 m1) ∧ w.cell? ⟨n + 1 + 1, 1, none⟩ = some (.int .i64 m2) ∧ w.cell? ⟨n + 1 + 1 + 1, 0, none⟩ = some (.int .i64 q1) ∧ w.cell? ⟨n + 1 + 1 + 1, 1, none⟩ = some (.int .i64 q2) ∧ w.cell? ⟨n + 1 + 1 + 1 + 1, 0, none⟩ = some (.int .i64 n1) ∧ w.cell? ⟨n + 1 + 1 + 1 + 1, 1, none⟩ = some (.int .i64 n2) :=
  ⟨h.g.cell 0, h.g.cell 1, h.p.cell 0, h.p.cell 1, h.m.cell 0, h.m.cell 1, h.q.cell 0, h.q.cell 1, h.n.cell 0, h.n.cell 1⟩
theorem B5.new (w : World) (A : Option Addr) (l : List Nd) (c : Nat) (out p1 p2 m1 m2 q1 q2 n1 n2 : Int) : B5 (((((w.alloc (gCs (.slice A l.length c) out)).alloc (.cells #[.int .i64 p1, .int .i64 p2] 26)).alloc (.cells #[.int .i64 m1, .int .i64 m2] 48)).alloc (.cells #[.int .i64 q1, .int .i64 q2] 26)).alloc (.cells #[.int .i64 n1, .int .i64 n2] 48)) w.heap.size (.slice A l.length c) out p1 p2 m1 m2 q1 q2 n1 n2 ∧ Ext w (((((w.alloc (gCs (.slice A l.length c) out)).alloc (.cells #[.int .i64 p1, .int .i64 p2] 26)).alloc (.cells #[.int .i64 m1, .int .i64 m2] 48)).alloc (.cells #[.int .i64 q1, .int .i64 q2] 26)).alloc (.cells #[.int .i64 n1, .int .i64 n2] 48)) := by
  have e1 : (w.alloc (gCs (.slice A l.length c) out)).heap.size = w.heap.size + 1 := by simp
  have b0 := Blk.new w 24 #[.slice A l.length c, .int .i64 out]
  generalize hw1 : w.alloc (gCs (.slice A l.length c) out) = w1 at *
  have x1 : Ext w w1 := by rw [← hw1]; exact (Ext.refl w).alloc _
  have e2 : (w1.alloc (.cells #[.int .i64 p1, .int .i64 p2] 26)).heap.size = w.heap.size + 1 + 1 := by simp [e1]
  have b1 := Blk.new w1 26 #[.int .i64 p1, .int .i64 p2]
  generalize hw2 : w1.alloc (.cells #[.int .i64 p1, .int .i64 p2] 26) = w2 at *
  have x2 : Ext w1 w2 := by rw [← hw2]; exact (Ext.refl w1).alloc _
  have e3 : (w2.alloc (.cells #[.int .i64 m1, .int .i64 m2] 48)).heap.size = w.heap.size + 1 + 1 + 1 := by simp [e2]
  have b2 := Blk.new w2 48 #[.int .i64 m1, .int .i64 m2]
  generalize hw3 : w2.alloc (.cells #[.int .i64 m1, .int .i64 m2] 48) = w3 at *
  have x3 : Ext w2 w3 := by rw [← hw3]; exact (Ext.refl w2).alloc _
  have e4 : (w3.alloc (.cells #[.int .i64 q1, .int .i64 q2] 26)).heap.size = w.heap.size + 1 + 1 + 1 + 1 := by simp [e3]
  have b3 := Blk.new w3 26 #[.int .i64 q1, .int .i64 q2]
  generalize hw4 : w3.alloc (.cells #[.int .i64 q1, .int .i64 q2] 26) = w4 at *
  have x4 : Ext w3 w4 := by rw [← hw4]; exact (Ext.refl w3).alloc _
  have b4 := Blk.new w4 48 #[.int .i64 n1, .int .i64 n2]
  have x5 := (Ext.refl w4).alloc (.cells #[.int .i64 n1, .int .i64 n2] 48)
  rw [e1] at b1
  rw [e2] at b2
  rw [e3] at b3
  rw [e4] at b4
  exact ⟨⟨b0.ext (x2.trans (x3.trans (x4.trans x5))), b1.ext (x3.trans (x4.trans x5)), b2.ext (x4.trans x5), b3.ext x5, b4⟩, x1.trans (x2.trans (x3.trans (x4.trans x5)))⟩
attribute [local irreducible] RE OE NodesR WM
set_option maxHeartbeats 4000000 in
theorem leads_any (d : Nat) (v : Value) (g : G) (p : Pl.P2) (m : Mom.M) (q : Pl.P2) (n : Mom.M) (w : World) (hv : NodesR d w v g.1) (hn : (gPl g).length ≤ 20) :
    Calls Try.prog 16 #[gAg v g.2, plV p, mV m, plV q, mV n] w fun e w' => e = .returned (.bool (Pl.leadsB g p m q n)) ∧ Ext w w' := by
  have HWY := Lib.hid (fun W (h : Ext w W) => way_any d v g p q W (hv.ext h) hn)
  have HLB := Lib.hid (show Pl.leadsB g p m q n = Pl.leadsW (Pl.wayO g p q) m n from rfl)
  have HCK := Lib.hid (fun W => Mo.check_any n W)
  obtain ⟨l, out⟩ := g
  generalize Pl.leadsB (l, out) p m q n = LB at *
  generalize Pl.wayO (l, out) p q = WO at *
  obtain ⟨A, c, rfl⟩ := hv.form
  obtain ⟨p1, p2⟩ := p
  obtain ⟨q1, q2⟩ := q
  have HOK := Lib.hid (show ∃ ck : Bool, Mom.ok n = ck from ⟨_, rfl⟩)
  have HLW := Lib.hid (show ∀ x, Pl.leadsW (some x) m n = (Mom.ok n && (decide ((walkM x m).2 = 0) && Mom.ahead (walkM x m).1 n)) from fun x => rfl)
  generalize Mom.ok n = ck at *
  have HLN0 := Lib.hid (show Pl.leadsW none m n = false from rfl)
  have HWK := Lib.hid (fun x W => Mo.walk_any x m W)
  have HAH := Lib.hid (fun y W => Mo.ahead_any y n W)
  obtain ⟨m1, m2⟩ := m
  obtain ⟨n1, n2⟩ := n
  have h0 := B5.new w A l c out p1 p2 m1 m2 q1 q2 n1 n2
  have HB0 := Lib.hid h0.1
  have HX0 := Lib.hid h0.2
  clear h0 hv hn
  go_enter Try.func16, Try.ntmps16
  go_upto_region 1 with fail
  generalize w.heap.size = n at *
  generalize ((((w.alloc (gCs (.slice A l.length c) out)).alloc (.cells #[.int .i64 p1, .int .i64 p2] 26)).alloc (.cells #[.int .i64 m1, .int .i64 m2] 48)).alloc (.cells #[.int .i64 q1, .int .i64 q2] 26)).alloc (.cells #[.int .i64 n1, .int .i64 n2] 48) = w0 at *
  obtain ⟨c0, c1, c2, c3, c4, c5, c6, c7, c8, c9⟩ := HB0.out.cells
  go_wp2_with fail
  refine (HWY.out w0 HX0.out).mono ?_
  rintro e w1 ⟨rfl, he1⟩
  have HX1 := Lib.hid (HX0.out.trans he1)
  have HB1 := Lib.hid (HB0.out.ext he1)
  clear he1 c0 c1 c2 c3 c4 c5 c6 c7 c8 c9
  obtain ⟨z1, z2, hzz⟩ : ∃ z1 z2, WO.getD (false, 0) = (z1, z2) := ⟨_, _, rfl⟩
  rw [hzz]
  have HXN := Lib.hid ((Ext.refl w1).alloc (.cells #[.bool z1, .int .i64 z2] 37))
  have HZ := Lib.hid (Blk.new w1 37 #[.bool z1, .int .i64 z2])
  have HZZ := Lib.hid hzz
  clear hzz
  obtain ⟨iso, hiso⟩ : ∃ b, WO.isSome = b := ⟨_, rfl⟩
  rw [hiso]
  have HIS := Lib.hid hiso
  clear hiso
  go_upto_region 2 with fail
  obtain ⟨qz, hqz⟩ : ∃ q, q = w1.heap.size := ⟨_, rfl⟩
  rw [← hqz] at HZ ⊢
  clear hqz
  have HX2 := Lib.hid (HX1.out.trans HXN.out)
  have HB2 := Lib.hid (HB1.out.ext HXN.out)
  generalize w1.alloc (.cells #[.bool z1, .int .i64 z2] 37) = w2 at *
  clear HX1 HB1 HXN
  obtain ⟨c0, c1, c2, c3, c4, c5, c6, c7, c8, c9⟩ := HB2.out.cells
  cases iso with
  | false =>
    have HR := Lib.hid (show LB = false from by
      have : WO = none := by
        cases hw : WO with
        | none => rfl
        | some x => have := HIS.out; rw [hw] at this; cases this
      rw [HLB.out, this]; exact HLN0.out)
    go_wp2
    go_ret
    exact ⟨by rw [HR.out]; rfl, HX2.out⟩
  | true =>
    go_wp2_with fail
    refine (HCK.out w2).mono ?_
    rintro e w3 ⟨rfl, he3⟩
    have HX3 := Lib.hid (HX2.out.trans he3)
    have HB3 := Lib.hid (HB2.out.ext he3)
    have HZ3 := Lib.hid (HZ.out.ext he3)
    clear he3 c0 c1 c2 c3 c4 c5 c6 c7 c8 c9
    obtain ⟨c0, c1, c2, c3, c4, c5, c6, c7, c8, c9⟩ := HB3.out.cells
    cases ck with
    | false =>
      have HR := Lib.hid (show LB = false from by
        obtain ⟨x, hx⟩ : ∃ x, WO = some x := Option.isSome_iff_exists.1 HIS.out
        rw [HLB.out, hx, HLW.out]; rfl)
      rw [if_neg (by simp)]
      go_wp2
      go_ret
      exact ⟨by rw [HR.out]; rfl, HX3.out⟩
    | true =>
      rw [if_pos rfl]
      have d0 : w3.cell? ⟨qz, 0, none⟩ = some (.bool z1) := HZ3.out.cell 0
      have d1 : w3.cell? ⟨qz, 1, none⟩ = some (.int .i64 z2) := HZ3.out.cell 1
      obtain ⟨x, hx⟩ : ∃ x, WO = some x := Option.isSome_iff_exists.1 HIS.out
      have HXX := Lib.hid (show x = (z1, z2) ∧ LB = (true && (decide ((walkM x (m1, m2)).2 = 0) && Mom.ahead (walkM x (m1, m2)).1 (n1, n2))) from ⟨by have := HZZ.out; rw [hx] at this; exact this, by rw [HLB.out, hx]; exact HLW.out x⟩)
      clear hx
      obtain rfl := HXX.out.1
      have HL9 := Lib.hid HXX.out.2
      have HW9 := Lib.hid (HWK.out (z1, z2) w3)
      clear HXX HWK
      generalize walkM (z1, z2) (m1, m2) = y at *
      obtain ⟨⟨y1, y2⟩, ye⟩ := y
      go_wp2_with fail
      refine HW9.out.mono ?_
      rintro e w4 ⟨rfl, he4⟩
      have HX4 := Lib.hid (HX3.out.trans he4)
      have HB4 := Lib.hid (HB3.out.ext he4)
      clear he4 c0 c1 c2 c3 c4 c5 c6 c7 c8 c9 d0 d1 HW9
      have HXN := Lib.hid ((Ext.refl w4).alloc (.cells #[.int .i64 y1, .int .i64 y2] 48))
      have HY := Lib.hid (Blk.new w4 48 #[.int .i64 y1, .int .i64 y2])
      go_upto_region 5 with fail
      obtain ⟨qy, hqy⟩ : ∃ q, q = w4.heap.size := ⟨_, rfl⟩
      rw [← hqy] at HY ⊢
      clear hqy
      have HX5 := Lib.hid (HX4.out.trans HXN.out)
      have HB5 := Lib.hid (HB4.out.ext HXN.out)
      generalize w4.alloc (.cells #[.int .i64 y1, .int .i64 y2] 48) = w5 at *
      obtain ⟨c0, c1, c2, c3, c4, c5, c6, c7, c8, c9⟩ := HB5.out.cells
      have d0 : w5.cell? ⟨qy, 0, none⟩ = some (.int .i64 y1) := HY.out.cell 0
      have d1 : w5.cell? ⟨qy, 1, none⟩ = some (.int .i64 y2) := HY.out.cell 1
      by_cases hye : ye = 0
      · have HR := Lib.hid (show LB = Mom.ahead (y1, y2) (n1, n2) from by rw [HL9.out]; simp [hye])
        have HA9 := Lib.hid (HAH.out (y1, y2) w5)
        generalize Mom.ahead (y1, y2) (n1, n2) = rr at *
        have t1 : (ye == 0) = true := by simpa using hye
        clear hye
        go_wp2_with fail
        refine HA9.out.mono ?_
        rintro e w6 ⟨rfl, he6⟩
        have HX6 := Lib.hid (HX5.out.trans he6)
        clear he6 c0 c1 c2 c3 c4 c5 c6 c7 c8 c9 d0 d1
        go_wp2
        go_ret
        exact ⟨by rw [HR.out]; rfl, HX6.out⟩
      · have HR := Lib.hid (show LB = false from by rw [HL9.out]; simp [hye])
        have t1 : (ye == 0) = false := by simpa using hye
        clear hye
        go_wp2
        go_ret
        exact ⟨by rw [HR.out]; rfl, HX5.out⟩
end Go.Proofs.Ytcacicgkebcdkaa
