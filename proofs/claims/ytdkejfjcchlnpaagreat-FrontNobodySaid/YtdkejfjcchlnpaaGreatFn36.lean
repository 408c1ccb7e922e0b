/-
  PlFns, PlWay, PlLawM, CntMath, Cnt, packed: what the claim needs of them.
-/
import Derived.Test.YtdkejfjcchlnpaaGreatFn35
import Derived.Shelf.SlMaps.Clone
set_option maxHeartbeats 40000000
open Go.Lib (hid)
set_option linter.unusedSimpArgs false
set_option linter.unusedVariables false
set_option maxRecDepth 100000
namespace Go.Ox.Pl
open Go.Ox.Gr Go.Proofs.YtdkejfjcchlnpaaGreat
theorem fmk {α β : Type} (f : α → Option β) (l : List α) {k : Nat} (h : k < l.length) : (l.take (k + 1)).filterMap f = (l.take k).filterMap f ++ (f l[k]).toList := by
 rw [List.take_succ_eq_append_getElem h, List.filterMap_append]
 cases hf : f l[k] <;> simp [hf]
theorem nd_pl {g : G} {p : P2} (h : (gNd g p).isSome = true) : p ∈ gPl g := by
 have hok : gOk g = true := by
  cases hq : gOk g with
  | true => rfl
  | false => unfold gNd at h; rw [if_neg (by rw [hq]; simp)] at h; cases h
 unfold gPl;rw [if_pos hok];exact (a8R hok).1 h
end Go.Ox.Pl
namespace Go.Proofs.YtdkejfjcchlnpaaGreat
open Go.RowKit Go.Ox Go.Ox.Gr Mo
attribute [local irreducible] RE OE a00 WM
theorem res2 {w w0 : World} {p : Nat} {T : TypeId} {a b : Value} (h : Blk w p T #[a, b]) (hx : Ext w0 w) (hp : w0.heap.size ≤ p) (u v : Value) :
 ((w.setCell ⟨p, 0, none⟩ u).setCell ⟨p, 1, none⟩ v).cell? ⟨p, 0, none⟩ = some u ∧ ((w.setCell ⟨p, 0, none⟩ u).setCell ⟨p, 1, none⟩ v).cell? ⟨p, 1, none⟩ = some v ∧ Ext w0 ((w.setCell ⟨p, 0, none⟩ u).setCell ⟨p, 1, none⟩ v) :=
 ⟨((h.a0U 0 u).a0U 1 v).cell 0, ((h.a0U 0 u).a0U 1 v).cell 1, Ext.setCell (Ext.setCell hx hp _) hp _⟩
end Go.Proofs.YtdkejfjcchlnpaaGreat
namespace Go.Ox.Pl
open Go.Ox.Gr Go.Proofs.YtdkejfjcchlnpaaGreat
def b1n (g : G) (p q : P2) : Option Wy := if (gNd g p).isSome = true ∧ (gNd g q).isSome = true then b4J g p q else none
end Go.Ox.Pl
namespace Go.Proofs.YtdkejfjcchlnpaaGreat
open Go.RowKit Go.Ox Go.Ox.Gr Mo
structure BW4 (w : World) (n : Nat) (gv : Value) (out p1 p2 q1 q2 : Int) : Prop where
 g : Blk w n 24 #[gv, .int .i64 out]
 p : Blk w (n + 1) 27 #[.int .i64 p1, .int .i64 p2]
 q : Blk w (n + 1 + 1) 27 #[.int .i64 q1, .int .i64 q2]
 r : Blk w (n + 1 + 1 + 1) 107 #[.bool false, .int .i64 0]
abbrev wBW4 (w : World) (gv : Value) (out p1 p2 q1 q2 : Int) : World := (((w.alloc (gCs gv out)).alloc (.cells #[.int .i64 p1, .int .i64 p2] 27)).alloc (.cells #[.int .i64 q1, .int .i64 q2] 27)).alloc (.cells #[.bool false, .int .i64 0] 107)
theorem BW4.new (w : World) (gv : Value) (out p1 p2 q1 q2 : Int) : BW4 (wBW4 w gv out p1 p2 q1 q2) w.heap.size gv out p1 p2 q1 q2 ∧ Ext w (wBW4 w gv out p1 p2 q1 q2) := by
 have e1 : (w.alloc (gCs gv out)).heap.size = w.heap.size + 1 := by simp
 have e2 : ((w.alloc (gCs gv out)).alloc (.cells #[.int .i64 p1, .int .i64 p2] 27)).heap.size = w.heap.size + 1 + 1 := by simp
 have e3 : (((w.alloc (gCs gv out)).alloc (.cells #[.int .i64 p1, .int .i64 p2] 27)).alloc (.cells #[.int .i64 q1, .int .i64 q2] 27)).heap.size = w.heap.size + 1 + 1 + 1 := by simp
 have b0 := Blk.new w 24 #[gv, .int .i64 out];have b1 := Blk.new (w.alloc (gCs gv out)) 27 #[.int .i64 p1, .int .i64 p2];have b2 := Blk.new ((w.alloc (gCs gv out)).alloc (.cells #[.int .i64 p1, .int .i64 p2] 27)) 27 #[.int .i64 q1, .int .i64 q2];have b3 := Blk.new (((w.alloc (gCs gv out)).alloc (.cells #[.int .i64 p1, .int .i64 p2] 27)).alloc (.cells #[.int .i64 q1, .int .i64 q2] 27)) 107 #[.bool false, .int .i64 0];rw [e1] at b1;rw [e2] at b2;rw [e3] at b3;exact ⟨⟨((b0.ext ((Ext.refl _).alloc _)).ext ((Ext.refl _).alloc _)).ext ((Ext.refl _).alloc _), (b1.ext ((Ext.refl _).alloc _)).ext ((Ext.refl _).alloc _), b2.ext ((Ext.refl _).alloc _), b3⟩, ((((Ext.refl w).alloc _).alloc _).alloc _).alloc _⟩
theorem BW4.ext {w w' : World} {n : Nat} {gv : Value} {out p1 p2 q1 q2 : Int} (h : BW4 w n gv out p1 p2 q1 q2) (he : Ext w w') : BW4 w' n gv out p1 p2 q1 q2 := ⟨h.g.ext he, h.p.ext he, h.q.ext he, h.r.ext he⟩
theorem BW4.cells {w : World} {n : Nat} {gv : Value} {out p1 p2 q1 q2 : Int} (h : BW4 w n gv out p1 p2 q1 q2) : w.cell? ⟨n, 0, none⟩ = some gv ∧ w.cell? ⟨n, 1, none⟩ = some (.int .i64 out) ∧ w.cell? ⟨n + 1, 0, none⟩ = some (.int .i64 p1) ∧ w.cell? ⟨n + 1, 1, none⟩ = some (.int .i64 p2) ∧ w.cell? ⟨n + 1 + 1, 0, none⟩ = some (.int .i64 q1) ∧ w.cell? ⟨n + 1 + 1, 1, none⟩ = some (.int .i64 q2) :=
 ⟨h.g.cell 0, h.g.cell 1, h.p.cell 0, h.p.cell 1, h.q.cell 0, h.q.cell 1⟩
theorem BW4.rs {w : World} {n : Nat} {gv : Value} {out p1 p2 q1 q2 : Int} (h : BW4 w n gv out p1 p2 q1 q2) : w.cell? ⟨n + 1 + 1 + 1, 0, none⟩ = some (.bool false) ∧ w.cell? ⟨n + 1 + 1 + 1, 1, none⟩ = some (.int .i64 0) ∧ w.frozen? ⟨n + 1 + 1 + 1, 0, none⟩ = false ∧ w.frozen? ⟨n + 1 + 1 + 1, 1, none⟩ = false ∧
 (∀ u, (w.setCell ⟨n + 1 + 1 + 1, 0, none⟩ u).frozen? ⟨n + 1 + 1 + 1, 1, none⟩ = false) ∧ (∀ u, (w.setCell ⟨n + 1 + 1 + 1, 0, none⟩ u).cell? ⟨n + 1 + 1 + 1, 1, none⟩ = some (.int .i64 0)) :=
 ⟨h.r.cell 0, h.r.cell 1, h.r.frozen 0, h.r.frozen 1, fun u => (h.r.a0U 0 u).frozen 1, fun u => (h.r.a0U 0 u).cell 1⟩
attribute [local irreducible] RE OE a00 WM
theorem b0L (d : Nat) (v : Value) (g : G) (p q : Pl.P2) (w : World) (hv : a00 d w v g.1) (hn : (gPl g).length ≤ 20) :
 Calls Tryz.prog 72 #[gAg v g.2, plV p, plV q] w fun e w' => e = .returned (.tuple #[wV ((Pl.b1n g p q).getD (false, 0)), .bool (Pl.b1n g p q).isSome]) ∧ Ext w w' := by
 have HND := hid (fun p W (h : Ext w W) => a6D d v g p W (hv.ext h))
 have HNDP := hid (HND.o p);have HNDQ := hid (HND.o q);clear HND;have HWY := hid (fun (hp : (gNd g p).isSome = true) W (h : Ext w W) => b2o d v g p W (hv.ext h) hn (Pl.nd_pl hp))
 have HWO := hid (show Pl.b1n g p q = if (gNd g p).isSome = true ∧ (gNd g q).isSome = true then Pl.b4J g p q else none from rfl)
 obtain ⟨l, out⟩ := g;generalize Pl.b1n (l, out) p q = WO at *;generalize Pl.b4J (l, out) p = M at *;generalize (gNd (l, out) p).getD default = nd at *;generalize (gNd (l, out) q).getD default = nq at *;generalize (gNd (l, out) p).isSome = sp at *;generalize (gNd (l, out) q).isSome = sq at *;obtain ⟨A, c, rfl⟩ := hv.form;obtain ⟨p1, p2⟩ := p;obtain ⟨q1, q2⟩ := q;obtain ⟨op, ins, kind, fa, a, body⟩ := nd;obtain ⟨op', ins', kind', fa', a', body'⟩ := nq;have h0 : BW4 ((((w.alloc (gCs (.slice A l.length c) out)).alloc (.cells #[.int .i64 p1, .int .i64 p2] 27)).alloc (.cells #[.int .i64 q1, .int .i64 q2] 27)).alloc (.cells #[.bool false, .int .i64 0] 107)) w.heap.size (.slice A l.length c) out p1 p2 q1 q2 ∧ Ext w ((((w.alloc (gCs (.slice A l.length c) out)).alloc (.cells #[.int .i64 p1, .int .i64 p2] 27)).alloc (.cells #[.int .i64 q1, .int .i64 q2] 27)).alloc (.cells #[.bool false, .int .i64 0] 107)) := BW4.new w (.slice A l.length c) out p1 p2 q1 q2;have HB0 := hid h0.1;have HX0 := hid h0.2;clear h0 hv hn
 go_enter Tryz.func72, Tryz.ntmps72
 go_upto_region 1 with fail
 obtain ⟨n, hn⟩ : ∃ n, n = w.heap.size := ⟨_, rfl⟩;rw [← hn] at HB0 ⊢;have HPS := hid (show w.heap.size ≤ n + 1 + 1 + 1 from by omega)
 clear hn;generalize (((w.alloc (gCs (.slice A l.length c) out)).alloc (.cells #[.int .i64 p1, .int .i64 p2] 27)).alloc (.cells #[.int .i64 q1, .int .i64 q2] 27)).alloc (.cells #[.bool false, .int .i64 0] 107) = w0 at *;obtain ⟨c0, c1, c2, c3, c4, c5⟩ := HB0.o.cells
 go_wp2_with fail
 refine (HNDP.o w0 HX0.o).mono ?_;rintro e w1 ⟨u9, b9, rfl, hu9, hb9, he1⟩;simp only [Nd.op, Nd.kind, Nd.fa, Nd.a, Nd.ins, Nd.body] at hu9 hb9 ⊢;obtain ⟨A9, c9, rfl⟩ := hu9.form;obtain ⟨A8, c8, rfl⟩ := hb9.form;have hx2 := he1.alloc (a0i op kind fa a (.slice A9 ins.length c9) (.slice A8 body.length c8));have HX2 := hid (HX0.o.trans hx2);have HB2 := hid (HB0.o.ext hx2);clear hu9 hb9 he1 hx2 c0 c1 c2 c3 c4 c5 HX0 HB0
 go_upto_region 2 with fail
 generalize w1.alloc (a0i op kind fa a (.slice A9 ins.length c9) (.slice A8 body.length c8)) = w2 at *;obtain ⟨c0, c1, c2, c3, c4, c5⟩ := HB2.o.cells
 go_wp2_with fail
 refine (HNDQ.o w2 HX2.o).mono ?_;rintro e w3 ⟨u7, b7, rfl, hu7, hb7, he3⟩;simp only [Nd.op, Nd.kind, Nd.fa, Nd.a, Nd.ins, Nd.body] at hu7 hb7 ⊢;obtain ⟨A7, c7, rfl⟩ := hu7.form;obtain ⟨A6, c6, rfl⟩ := hb7.form;have hx4 := he3.alloc (a0i op' kind' fa' a' (.slice A7 ins'.length c7) (.slice A6 body'.length c6));have HX4 := hid (HX2.o.trans hx4);have HB4 := hid (HB2.o.ext hx4);clear hu7 hb7 he3 hx4 c0 c1 c2 c3 c4 c5 HX2 HB2
 go_upto_region 3 with fail
 generalize w3.alloc (a0i op' kind' fa' a' (.slice A7 ins'.length c7) (.slice A6 body'.length c6)) = w4 at *;obtain ⟨r0, r1, f0, f1, t0, t1⟩ := HB4.o.rs
 cases sp with
 | false =>
  have HW := hid (show WO = none from by rw [HWO.o]; simp)
  go_wp2
  obtain ⟨y0, y1, hy⟩ := res2 HB4.o.r HX4.o HPS.o (.bool false) (.int .i64 0);generalize ((w4.setCell ⟨n + 1 + 1 + 1, 0, none⟩ (.bool false)).setCell ⟨n + 1 + 1 + 1, 1, none⟩ (.int .i64 0)) = wz at *;exact bodyPost_ret (v := .tuple #[wV (false, 0), .bool false]) (by simp [results, Tryz.results72, go_sem, y0, y1]) rfl ⟨by rw [HW.o]; rfl, hy⟩
 | true =>
 cases sq with
 | false =>
  have HW := hid (show WO = none from by rw [HWO.o]; simp)
  go_wp2
  obtain ⟨y0, y1, hy⟩ := res2 HB4.o.r HX4.o HPS.o (.bool false) (.int .i64 0);generalize ((w4.setCell ⟨n + 1 + 1 + 1, 0, none⟩ (.bool false)).setCell ⟨n + 1 + 1 + 1, 1, none⟩ (.int .i64 0)) = wz at *;exact bodyPost_ret (v := .tuple #[wV (false, 0), .bool false]) (by simp [results, Tryz.results72, go_sem, y0, y1]) rfl ⟨by rw [HW.o]; rfl, hy⟩
 | true =>
 have HW := hid (show WO = M (q1, q2) from by rw [HWO.o]; simp)
 have HWYA := hid (HWY.o rfl);have HWYX := hid (fun W (hW : Ext w4 W) => HWYA.o W (HX4.o.trans hW))
 clear r0 r1 f0 f1 t0 t1;obtain ⟨c0, c1, c2, c3, c4, c5⟩ := HB4.o.cells;obtain ⟨z1, z2, hzz⟩ : ∃ z1 z2, (M (q1, q2)).getD (false, 0) = (z1, z2) := ⟨_, _, rfl⟩;obtain ⟨hz, hhz⟩ : ∃ hz, (M (q1, q2)).isSome = hz := ⟨_, rfl⟩;have HZZ := hid hzz;have HHZ := hid hhz;clear hzz hhz;have HR4 := hid HB4.o.r;clear HB4;generalize n + 1 + 1 + 1 = nr at *;generalize n + 1 + 1 = nq at *;generalize n + 1 = np at *;have hA := World.block_lt_of_cell? w4 _ c0;have hB := World.block_lt_of_cell? w4 _ c2;have hC := World.block_lt_of_cell? w4 _ c4;simp only at hA hB hC;have hA1 : ¬ n = w4.heap.size := by omega
 have hB1 : ¬ np = w4.heap.size := by omega
 have hC1 : ¬ nq = w4.heap.size := by omega
 go_upto_region 5 with fail
 go_cut [12, 9] (fun s12 s9 wx => ∃ m, s12 = .pointer (some ⟨m, 0, none⟩) ∧ s9 = .bool hz ∧ w4.heap.size ≤ m ∧ Blk wx m 107 #[.bool z1, .int .i64 z2] ∧ Ext w4 wx)
 case first =>
  clear HR4 HX4 HNDP HNDQ HWO HW
  go_region_with (go_at_call 102; refine (HWYX.o _ (by repeat (first | exact Ext.refl _ | refine Ext.drew ?_ | refine Ext.alloc ?_ _))).mono ?_; rintro e w5 ⟨b5, rfl, hm5, he5⟩; have hx45 : Ext w4 w5 := Ext.trans (by repeat (first | exact Ext.refl _ | refine Ext.drew ?_ | refine Ext.alloc ?_ _)) he5; have d0 := hx45.cell c0; have d1 := hx45.cell c1; have d2 := hx45.cell c2; have d3 := hx45.cell c3; have d4 := hx45.cell c4; have d5 := hx45.cell c5; have hsz := hx45.size; have hA5 : ¬ n = w5.heap.size := (by omega); have hB5 : ¬ np = w5.heap.size := (by omega); have hC5 : ¬ nq = w5.heap.size := (by omega); have hxa : Ext w5 (w5.alloc (.cells #[.bool false, .int .i64 0] 107)) := ((Ext.refl w5).alloc _); have g4 := hxa.cell d4; have g5 := hxa.cell d5; have lk1 : (Instr.lookup 165 (.map (some b5)) (.agg #[.int .i64 q1, .int .i64 q2]) true).run Tryz.prog w5 = .ok (.tuple #[.agg #[.bool z1, .int .i64 z2], .bool hz]) w5 := (by have h := hm5.look (q1, q2); rw [HZZ.o, HHZ.o] at h; exact h); have lk2 : (Instr.lookup 165 (.map (some b5)) (.agg #[.int .i64 q1, .int .i64 q2]) true).run Tryz.prog (w5.alloc (.cells #[.bool false, .int .i64 0] 107)) = .ok (.tuple #[.agg #[.bool z1, .int .i64 z2], .bool hz]) (w5.alloc (.cells #[.bool false, .int .i64 0] 107)) := (by have h := (hm5.ext ((Ext.refl w5).alloc (.cells #[.bool false, .int .i64 0] 107))).look (q1, q2); rw [HZZ.o, HHZ.o] at h; exact h); try (have HBN := hid (((Blk.new w4 107 #[.bool false, .int .i64 0]).ext (Ext.refl _).drew).ext he5); have b0 := HBN.o.cell 0; have b1 := HBN.o.cell 1; have f0 := HBN.o.frozen 0; have f1 := HBN.o.frozen 1; have t0 := (HBN.o.a0U 0 (.bool z1)).frozen 1; have t1 := (HBN.o.a0U 0 (.bool z1)).cell 1))
  all_goals go_wp2
  all_goals go_meet
  all_goals first
   | exact ⟨_, rfl, rfl, Nat.le_refl _, (HBN.o.a0U 0 (.bool z1)).a0U 1 (.int .i64 z2), (hx45.setCell (p := ⟨w4.heap.size, 0, none⟩) (Nat.le_refl _) (.bool z1)).setCell (p := ⟨w4.heap.size, 1, none⟩) (Nat.le_refl _) (.int .i64 z2)⟩
   | exact ⟨_, rfl, rfl, hx45.size, Blk.new w5 107 #[.bool z1, .int .i64 z2], hx45.alloc _⟩
 case rest =>
 obtain ⟨m, rfl, rfl, hm, hbm, hx5⟩ := hcut;rename World => w6
 have HX6 := hid (HX4.o.trans hx5);have HR6 := hid (HR4.o.ext hx5);have b0 := hbm.c0;have b1 := hbm.c1;have r0 := HR6.o.cell 0;have r1 := HR6.o.cell 1;have f0 := HR6.o.frozen 0;have f1 := HR6.o.frozen 1;have t0 := fun u => (HR6.o.a0U 0 u).frozen 1
 have t1 := fun u => (HR6.o.a0U 0 u).cell 1
 clear c0 c1 c2 c3 c4 c5 hA hB hC hA1 hB1 hC1 hm hbm hx5
 go_wp2
 obtain ⟨y0, y1, hy⟩ := res2 HR6.o HX6.o HPS.o (.bool z1) (.int .i64 z2);generalize ((w6.setCell ⟨nr, 0, none⟩ (.bool z1)).setCell ⟨nr, 1, none⟩ (.int .i64 z2)) = wz at *;exact bodyPost_ret (v := .tuple #[wV (z1, z2), .bool hz]) (by simp [results, Tryz.results72, go_sem, y0, y1]) rfl ⟨by rw [HW.o, HZZ.o, HHZ.o], hy⟩
end Go.Proofs.YtdkejfjcchlnpaaGreat
namespace Go.Ox.Pl
open Go.Ox.Gr Go.Proofs.YtdkejfjcchlnpaaGreat Go.Proofs.YtdkejfjcchlnpaaGreat.Mo
def fW (w : Wy) (m : Int) : Int := if w.1 = true then w.2 else m + w.2
theorem a8e {w : Wy} {m : Mom.M} : (a1J w m).2 = 0 ↔ 0 ≤ w.2 ∧ w.2 < 65536 ∧ Mom.ok m = true ∧ Mom.ok (m.1, fW w m.2) = true := by
 have e : a2q w m = (m.1, fW w m.2) := by
  unfold a2q fW
  split <;> simp
 unfold a1J;rw [e];constructor
 · intro h
   split at h
   · simp at h
   split at h
   · simp at h
   split at h
   · simp at h
   rename_i h1 h2 h3
   unfold okW at h1;simp at h1;exact ⟨h1.1, h1.2, by simpa using h2, by simpa using h3⟩
 rintro ⟨h1, h2, h3, h4⟩;have : okW w = true := by unfold okW; simp [h1, h2]
 rw [if_neg (by rw [this]; simp), if_neg (by rw [h3]; simp), if_neg (by rw [h4]; simp)]
theorem b0M {w : Wy} {m : Mom.M} (h : (a1J w m).2 = 0) : (a1J w m).1 = (m.1, fW w m.2) := by
 have e : a2q w m = (m.1, fW w m.2) := by
  unfold a2q fW
  split <;> simp
 obtain ⟨h1, h2, h3, h4⟩ := a8e.1 h;unfold a1J;rw [e];have : okW w = true := by unfold okW; simp [h1, h2]
 rw [if_neg (by rw [this]; simp), if_neg (by rw [h3]; simp), if_neg (by rw [h4]; simp)]
end Go.Ox.Pl
namespace Go.Ox.Cnt
open Go.Ox
abbrev K := (Int × Int) × (Int × Int)
abbrev S := K × Int
def klt (a b : K) : Prop := Mom.lt a.1 b.1 ∨ (a.1 = b.1 ∧ Mom.lt a.2 b.2)
instance (a b : K) : Decidable (klt a b) := by unfold klt Mom.lt; infer_instance
def a6I (a b : K) : Int := if Mom.cmp a.1 b.1 = 0 then Mom.cmp a.2 b.2 else Mom.cmp a.1 b.1
theorem a8f {a b : Int × Int} : Mom.cmp a b = 0 ↔ a = b := by
 obtain ⟨a1, a2⟩ := a;obtain ⟨b1, b2⟩ := b;unfold Mom.cmp;simp only [Prod.mk.injEq]
 repeat' split
 all_goals omega
theorem a0r (a : K) : ¬ klt a a := by
 unfold klt;rintro (h | ⟨_, h⟩)
 · exact Mom.lt_irrefl _ h
 exact Mom.lt_irrefl _ h
theorem a0B {a b c : K} (h : klt a b) (k : klt b c) : klt a c := by
 unfold klt at *
 rcases h with h | ⟨h1, h2⟩
 · rcases k with k | ⟨k1, k2⟩
   · exact .inl (Mom.lt_trans h k)
   exact .inl (k1 ▸ h)
 rcases k with k | ⟨k1, k2⟩
 · exact .inl (h1 ▸ k)
 exact .inr ⟨h1.trans k1, Mom.lt_trans h2 k2⟩
theorem a1y (a b : K) : klt a b ∨ a = b ∨ klt b a := by
 unfold klt
 rcases Mom.a2x a.1 b.1 with h | h | h
 · exact .inl (.inl h)
 · rcases Mom.a2x a.2 b.2 with k | k | k
   · exact .inl (.inr ⟨h, k⟩)
   · exact .inr (.inl (Prod.ext h k))
   exact .inr (.inr (.inr ⟨h.symm, k⟩))
 exact .inr (.inr (.inl h))
theorem a7s {a b : K} : a6I a b < 0 ↔ klt a b := by
 unfold a6I klt
 by_cases h : a.1 = b.1
 · rw [if_pos (a8f.2 h), Mom.a6d]
   constructor
   · intro k; exact .inr ⟨h, k⟩
   rintro (k | ⟨_, k⟩)
   · rw [h] at k; exact absurd k (Mom.lt_irrefl _)
   exact k
 rw [if_neg (fun q => h (a8f.1 q)), Mom.a6d]
 constructor
 · intro k; exact .inl k
 rintro (k | ⟨q, _⟩)
 · exact k
 exact absurd q h
structure Good (L : List S) : Prop where
 asc : L.Pairwise fun a b => klt a.1 b.1
 num : ∀ x ∈ L, 1 ≤ x.2 ∧ x.2 ≤ 1073741824
theorem a4R : ∀ {a b : List S}, a.Pairwise (fun a b => klt a.1 b.1) → b.Pairwise (fun a b => klt a.1 b.1) → (∀ m, m ∈ a ↔ m ∈ b) → a = b
 | [], [], _, _, _ => rfl
 | [], y :: b, _, _, h => by have := (h y).2 (List.mem_cons_self ..); simp at this
 | x :: a, [], _, _, h => by have := (h x).1 (List.mem_cons_self ..); simp at this
 | x :: a, y :: b, ha, hb, h => by
  have ha := List.pairwise_cons.1 ha;have hb := List.pairwise_cons.1 hb
  have e : x = y := by
   rcases List.mem_cons.1 ((h x).1 (List.mem_cons_self ..)) with r | r
   · exact r
   · rcases List.mem_cons.1 ((h y).2 (List.mem_cons_self ..)) with q | q
     · exact q.symm
     · exact absurd (a0B (ha.1 y q) (hb.1 x r)) (a0r _)
  subst e;rw [a4R ha.2 hb.2 fun m => ?_]
  constructor
  · intro hm
    rcases List.mem_cons.1 ((h m).1 (List.mem_cons_of_mem _ hm)) with r | r
    · subst r; exact absurd (ha.1 _ hm) (a0r _)
    · exact r
  · intro hm
    rcases List.mem_cons.1 ((h m).2 (List.mem_cons_of_mem _ hm)) with r | r
    · subst r; exact absurd (hb.1 _ hm) (a0r _)
    · exact r
theorem a4w {L : List S} (h : L.Pairwise fun a b => klt a.1 b.1) : (L.map (·.1)).Nodup := by
 rw [List.nodup_iff_pairwise_ne, List.pairwise_map];exact h.imp fun {a b} hh (q : a.1 = b.1) => a0r b.1 (q ▸ hh)
def was (L : List S) (k : K) : Int := (ofE k L).getD 0
theorem b4h {L : List S} (h : Good L) {k : K} {n : Int} (hm : (k, n) ∈ L) : was L k = n := by
 obtain ⟨j, hj⟩ := a5x (i := 0) (a4w h.asc) hm;unfold was ofE;rw [hj]; rfl
theorem b4i {L : List S} {k : K} (hm : ∀ x ∈ L, x.1 ≠ k) : was L k = 0 := by
 unfold was ofE;rw [a1v.2 hm]; rfl
theorem b0N {L : List S} (h : Good L) (k : K) : (∃ n, (k, n) ∈ L ∧ was L k = n) ∨ ((∀ x ∈ L, x.1 ≠ k) ∧ was L k = 0) := by
 by_cases hm : ∃ x ∈ L, x.1 = k
 · obtain ⟨x, hx, rfl⟩ := hm
   exact .inl ⟨x.2, hx, b4h h hx⟩
 have : ∀ x ∈ L, x.1 ≠ k := fun x hx q => hm ⟨x, hx, q⟩
 exact .inr ⟨this, b4i this⟩
theorem a3q {L : List S} (h : Good L) (k : K) : 0 ≤ was L k ∧ was L k ≤ 1073741824 := by
 rcases b0N h k with ⟨n, hm, e⟩ | ⟨_, e⟩
 · rw [e]; have := h.num _ hm; simp only at this; omega
 rw [e]; omega
def a2y (s : S) (st : List S × Bool) (x : S) : List S × Bool :=
 if x.1 = s.1 then st else if st.2 = false ∧ klt s.1 x.1 then (st.1 ++ [s] ++ [x], true) else (st.1 ++ [x], st.2)
def b36 (L : List S) (s : S) : List S := if (L.foldl (a2y s) ([], s.2 == 0)).2 = true then (L.foldl (a2y s) ([], s.2 == 0)).1 else (L.foldl (a2y s) ([], s.2 == 0)).1 ++ [s]
structure RInv (s : S) (pre : List S) (st : List S × Bool) : Prop where
 asc : st.1.Pairwise fun a b => klt a.1 b.1
 mem : ∀ x, x ∈ st.1 ↔ (x ∈ pre ∧ x.1 ≠ s.1) ∨ (st.2 = true ∧ s.2 ≠ 0 ∧ x = s)
 off : st.2 = false → ∀ x ∈ pre, x.1 ≠ s.1 → klt x.1 s.1
 zero : s.2 = 0 → st.2 = true
 on : st.2 = true → s.2 ≠ 0 → ∃ y ∈ pre, klt s.1 y.1
theorem RInv.step {s : S} {pre : List S} {st : List S × Bool} {x : S} (h : RInv s pre st) (hx : ∀ y ∈ pre, klt y.1 x.1) : RInv s (pre ++ [x]) (a2y s st x) := by
 obtain ⟨out, put⟩ := st;unfold a2y
 by_cases h1 : x.1 = s.1
 · rw [if_pos h1]
   refine ⟨h.asc, fun y => ?_, fun hp y hy hne => ?_, h.zero, fun hp hs => ?_⟩
   · rw [h.mem y]
     simp only [List.mem_append, List.mem_singleton];constructor
     · rintro (⟨a, b⟩ | c)
       · exact .inl ⟨.inl a, b⟩
       exact .inr c
     rintro (⟨a | rfl, b⟩ | c)
     · exact .inl ⟨a, b⟩
     · exact absurd h1 b
     exact .inr c
   · rcases List.mem_append.1 hy with hy | hy
     · exact h.off hp y hy hne
     rw [List.mem_singleton.1 hy] at hne; exact absurd h1 hne
   obtain ⟨y, hy, hq⟩ := h.on hp hs;exact ⟨y, List.mem_append_left _ hy, hq⟩
 rw [if_neg h1]
 by_cases h2 : put = false ∧ klt s.1 x.1
 · rw [if_pos h2]
   obtain ⟨rfl, h3⟩ := h2;have hs : s.2 ≠ 0 := fun q => by have := h.zero q; cases this
   have hout : ∀ y ∈ out, klt y.1 s.1 := fun y hy => by
    rcases (h.mem y).1 hy with ⟨a, b⟩ | ⟨a, _⟩
    · exact h.off rfl y a b
    cases a
   refine ⟨?_, fun y => ?_, fun hp => (by cases hp), fun _ => rfl, fun _ _ => ⟨x, by simp, h3⟩⟩
   · refine List.pairwise_append.2 ⟨List.pairwise_append.2 ⟨h.asc, by simp, fun a ha b hb => ?_⟩, by simp, fun a ha b hb => ?_⟩
     · rw [List.mem_singleton.1 hb]; exact hout a ha
     rw [List.mem_singleton.1 hb]
     rcases List.mem_append.1 ha with ha | ha
     · exact a0B (hout a ha) h3
     rw [List.mem_singleton.1 ha]; exact h3
   simp only [List.mem_append, List.mem_singleton];rw [h.mem y];constructor
   · rintro (((⟨a, b⟩ | ⟨a, _⟩) | rfl) | rfl)
     · exact .inl ⟨.inl a, b⟩
     · cases a
     · exact .inr ⟨trivial, hs, rfl⟩
     exact .inl ⟨.inr rfl, h1⟩
   rintro (⟨a | rfl, b⟩ | ⟨_, _, rfl⟩)
   · exact .inl (.inl (.inl ⟨a, b⟩))
   · exact .inr rfl
   exact .inl (.inr rfl)
 rw [if_neg h2]
 have hlt : put = false → klt x.1 s.1 := fun hp => by
  rcases a1y x.1 s.1 with q | q | q
  · exact q
  · exact absurd q h1
  exact absurd ⟨hp, q⟩ h2
 refine ⟨List.pairwise_append.2 ⟨h.asc, by simp, fun a ha b hb => ?_⟩, fun y => ?_, fun hp y hy hne => ?_, h.zero, fun hp hs => ?_⟩
 · rw [List.mem_singleton.1 hb]
   rcases (h.mem a).1 ha with ⟨q, _⟩ | ⟨q, hs, rfl⟩
   · exact hx a q
   obtain ⟨y, hy, hq⟩ := h.on q hs;exact a0B hq (hx y hy)
 · simp only [List.mem_append, List.mem_singleton]
   rw [h.mem y];constructor
   · rintro ((⟨a, b⟩ | c) | rfl)
     · exact .inl ⟨.inl a, b⟩
     · exact .inr c
     exact .inl ⟨.inr rfl, h1⟩
   rintro (⟨a | rfl, b⟩ | c)
   · exact .inl (.inl ⟨a, b⟩)
   · exact .inr rfl
   exact .inl (.inr c)
 · rcases List.mem_append.1 hy with hy | hy
   · exact h.off hp y hy hne
   rw [List.mem_singleton.1 hy]; exact hlt hp
 obtain ⟨y, hy, hq⟩ := h.on hp hs;exact ⟨y, List.mem_append_left _ hy, hq⟩
theorem RInv.all {s : S} : ∀ (suf pre : List S) (st : List S × Bool), RInv s pre st → (pre ++ suf).Pairwise (fun a b => klt a.1 b.1) → RInv s (pre ++ suf) (suf.foldl (a2y s) st)
 | [], pre, st, h, _ => by simpa using h
 | x :: suf, pre, st, h, hp => by
  have h1 : ∀ y ∈ pre, klt y.1 x.1 := fun y hy => (List.pairwise_append.1 hp).2.2 y hy x (List.mem_cons_self ..)
  have := RInv.all suf (pre ++ [x]) _ (h.step h1) (by simpa using hp)
  simpa using this
theorem RInv.start (s : S) : RInv s [] ([], s.2 == 0) :=
 ⟨List.Pairwise.nil, fun x => (by simp; intro a b; exact absurd a b), fun _ x hx => by simp at hx, fun h => by simp [h], fun h1 h2 => absurd (by simpa using h1) h2⟩
theorem a6J {L : List S} (h : L.Pairwise fun a b => klt a.1 b.1) (s : S) : (b36 L s).Pairwise (fun a b => klt a.1 b.1) ∧ ∀ x, x ∈ b36 L s ↔ (x ∈ L ∧ x.1 ≠ s.1) ∨ (s.2 ≠ 0 ∧ x = s) := by
 have hi : RInv s ([] ++ L) (L.foldl (a2y s) ([], s.2 == 0)) := RInv.all L [] _ (RInv.start s) (by simpa using h)
 rw [List.nil_append] at hi;unfold b36
 split
 · rename_i hp
   refine ⟨hi.asc, fun x => ?_⟩
   rw [hi.mem x, hp];simp
 rename_i hp
 have hp : (L.foldl (a2y s) ([], s.2 == 0)).2 = false := by simpa using hp
 have hs : s.2 ≠ 0 := fun q => by have := hi.zero q; rw [hp] at this; cases this
 refine ⟨List.pairwise_append.2 ⟨hi.asc, by simp, fun a ha b hb => ?_⟩, fun x => ?_⟩
 · rw [List.mem_singleton.1 hb]
   rcases (hi.mem a).1 ha with ⟨q1, q2⟩ | ⟨q, _⟩
   · exact hi.off hp a q1 q2
   rw [hp] at q; cases q
 simp only [List.mem_append, List.mem_singleton];rw [hi.mem x, hp];simp [hs]
theorem b0O {L : List S} (h : Good L) (s : S) (h0 : 0 ≤ s.2) (h1 : s.2 ≤ 1073741824) : Good (b36 L s) := by
 obtain ⟨a, b⟩ := a6J h.asc s;refine ⟨a, fun x hx => ?_⟩
 rcases (b x).1 hx with ⟨q, _⟩ | ⟨q, rfl⟩
 · exact h.num x q
 omega
def add (L : List S) (k : K) (n : Int) : List S × Int :=
 if Mom.ok k.2 = false then (L, 40) else if n < - was L k ∨ 1073741824 - was L k < n then (L, 210) else (b36 L (k, was L k + n), 0)
theorem b2p : Good [] := ⟨List.Pairwise.nil, by simp⟩
def tot (L : List S) : Int := (L.map (·.2)).sum
end Go.Ox.Cnt
namespace Go.Proofs.YtdkejfjcchlnpaaGreat.Ct
open Go.RowKit Go.Ox
abbrev pV2 (m : Int × Int) : Value := .agg #[.int .i64 m.1, .int .i64 m.2]
abbrev kV (k : Cnt.K) : Value := .agg #[.int .i64 k.1.1, .int .i64 k.1.2, .int .i64 k.2.1, .int .i64 k.2.2]
abbrev vI (n : Int) : Value := .int .i64 n
abbrev sV (x : Cnt.S) : Value := .agg #[.int .i64 x.1.1.1, .int .i64 x.1.1.2, .int .i64 x.1.2.1, .int .i64 x.1.2.2, .int .i64 x.2]
instance encS : Enc Cnt.S where
 k := 5
 enc x := [.int .i64 x.1.1.1, .int .i64 x.1.1.2, .int .i64 x.1.2.1, .int .i64 x.1.2.2, .int .i64 x.2]
 len _ := rfl
 pos := by omega
 one x u hu := by simp at hu; rcases hu with rfl | rfl | rfl | rfl | rfl <;> rfl
theorem elemS : Elem Tryz.prog 25 38 (.agg #[.int .i64 0, .int .i64 0, .int .i64 0, .int .i64 0, .int .i64 0]) 5 40 := Elem.mk' Tryz.underlying25 (by kernel_rfl) rfl (by omega)
def a90 (a b c d : Int) : Bool := (a == c) && (b == d)
theorem eqInP (a b c d : Int) (w : World) : (Op.equalIn 9999 27 (.agg #[.int .i64 a, .int .i64 b]) (.agg #[.int .i64 c, .int .i64 d])).run Tryz.prog w = .ok (a90 a b c d) w := by
 have u3 := Tryz.underlying3;have a3 := Tryz.isAgg3;have z3 := Tryz.sizeOf3;have hS : Tryz.prog.underlying 27 = some (.struct (Tryz.prog.fieldsOf 27)) := by kernel_rfl
 have hp : Tryz.prog.stoodInHeld 27 = false := by kernel_rfl
 rw [show (9999 : Nat) = 9998 + 1 from rfl, run_equalIn_agg w 9998 27 _ _ hS hp];simp only [Program.fieldsOf, Tryz.underlying27];unfold a90;go_simp
 by_cases h1 : a = c <;> by_cases h2 : b = d <;> simp [h1, h2]
theorem b37 (a b c d : Int) (w : World) : (Op.equalIn 9999 29 (.agg #[.int .i64 a, .int .i64 b]) (.agg #[.int .i64 c, .int .i64 d])).run Tryz.prog w = .ok (a90 a b c d) w := by
 have u3 := Tryz.underlying3;have a3 := Tryz.isAgg3;have z3 := Tryz.sizeOf3;have hS : Tryz.prog.underlying 29 = some (.struct (Tryz.prog.fieldsOf 29)) := by kernel_rfl
 have hp : Tryz.prog.stoodInHeld 29 = false := by kernel_rfl
 rw [show (9999 : Nat) = 9998 + 1 from rfl, run_equalIn_agg w 9998 29 _ _ hS hp];simp only [Program.fieldsOf, Tryz.underlying29];unfold a90;go_simp
 by_cases h1 : a = c <;> by_cases h2 : b = d <;> simp [h1, h2]
theorem eqInK (x y : Cnt.K) (w : World) : (Op.equalIn 10000 92 (kV x) (kV y)).run Tryz.prog w = .ok (decide (x = y)) w := by
 have hS : Tryz.prog.underlying 92 = some (.struct (Tryz.prog.fieldsOf 92)) := by kernel_rfl
 have hp : Tryz.prog.stoodInHeld 92 = false := by kernel_rfl
 have h1 := eqInP;have h2 := b37;have a1 := Tryz.isAgg27;have a2 := Tryz.isAgg29;have z1 := Tryz.sizeOf27;have z2 := Tryz.sizeOf29;rw [show (10000 : Nat) = 9999 + 1 from rfl, run_equalIn_agg w 9999 92 _ _ hS hp];simp only [Program.fieldsOf, Tryz.underlying92];obtain ⟨⟨x1, x2⟩, x3, x4⟩ := x;obtain ⟨⟨y1, y2⟩, y3, y4⟩ := y;go_simp;unfold a90
 by_cases q1 : x1 = y1 <;> by_cases q2 : x2 = y2 <;> by_cases q3 : x3 = y3 <;> by_cases q4 : x4 = y4 <;> simp [q1, q2, q3, q4]
theorem chkK (e : Bool) (x : Cnt.K) (w : World) : (Instr.checkKey e 10000 92 (kV x)).run Tryz.prog w = .ok () w := by
 kernel_rfl
theorem bitsK (x : Cnt.K) : Instr.sameBits 10000 (kV x) (kV x) = true := by
 show Instr.sameBits (9999 + 1) (kV x) (kV x) = true;simp [Instr.sameBits]
theorem keyK : KeyE Tryz.prog 92 kV where
 eq := eqInK
 chk := chkK
 now x y es i b n := ⟨_, Tryz.underlying92, rfl, rfl⟩
 bits := bitsK
theorem zeroI (w : World) : (zeroValue 3).run Tryz.prog w = .ok (vI 0) w := by kernel_rfl
structure CM (w : World) (g b : Nat) (L : List Cnt.S) : Prop where
 box : Blk w g 90 #[.map (some b)]
 ne : g ≠ b
 map : ∃ l, a29 kV vI w b l ∧ ∀ x, x ∈ l ↔ x ∈ L
 good : Cnt.Good L
theorem CM.ext {w w' : World} {g b : Nat} {L : List Cnt.S} (h : CM w g b L) (he : Ext w w') : CM w' g b L := by
 obtain ⟨l, h1, h2⟩ := h.map;exact ⟨h.box.ext he, h.ne, ⟨l, h1.ext he, h2⟩, h.good⟩
theorem CM.a1Q {w w' : World} {g b c : Nat} {L : List Cnt.S} (h : CM w g b L) (he : ExtM c w w') (h1 : g ≠ c) (h2 : b ≠ c) : CM w' g b L := by
 obtain ⟨l, h3, h4⟩ := h.map;exact ⟨h.box.a1Q he h1, h.ne, ⟨l, h3.a1Q he h2, h4⟩, h.good⟩
theorem CM.lt {w : World} {g b : Nat} {L : List Cnt.S} (h : CM w g b L) : g < w.heap.size ∧ b < w.heap.size := by
 obtain ⟨l, h1, _⟩ := h.map;exact ⟨h.box.lt, h1.lt⟩
theorem was_of {l L : List Cnt.S} (hn : (l.map (·.1)).Nodup) (hg : Cnt.Good L) (h : ∀ x, x ∈ l ↔ x ∈ L) (k : Cnt.K) : (ofE k l).getD 0 = Cnt.was L k := by
 unfold Cnt.was ofE
 cases h1 : fdE k l 0 with
 | none =>
  have := a1v.1 h1;rw [a1v.2 fun x hx => this x ((h x).2 hx)]
 | some p =>
 have hm := (h _).1 (a3L (show fdE k l 0 = some (p.1, p.2) from h1));obtain ⟨j, hj⟩ := a5x (i := 0) (Cnt.a4w hg.asc) hm;rw [hj];rfl
theorem CM.look {w : World} {g b : Nat} {L : List Cnt.S} (h : CM w g b L) (k : Cnt.K) : (Instr.lookup 88 (.map (some b)) (kV k) false).run Tryz.prog w = .ok (vI (Cnt.was L k)) w := by
 obtain ⟨l, h1, h2⟩ := h.map;rw [h1.a7C keyK Tryz.underlying88 (z := 0) zeroI k, was_of h1.nodup h.good h2]
theorem b4j (w : World) : Calls Tryz.prog 26 #[] w fun e w' => ∃ g b, e = .returned (.pointer (some ⟨g, 0, none⟩)) ∧ w.heap.size ≤ g ∧ w.heap.size ≤ b ∧ CM w' g b [] ∧ Ext w w' := by
 have hmm := @run_makeMap Tryz.prog
 go_enter Tryz.func26, Tryz.ntmps26
 go_wp2
 go_ret
 have hm := a29.new (kV := kV) (vV := vI) w;have hb := Blk.new (w.alloc (.map #[] 0)) 90 #[.map (some w.heap.size)];have hs : (w.alloc (.map #[] 0)).heap.size = w.heap.size + 1 := by simp
 rw [hs] at hb;refine ⟨_, _, rfl, ?_, Nat.le_refl _, ⟨hb, ?_, ⟨[], hm.ext ((Ext.refl _).alloc _), by simp⟩, Cnt.b2p⟩, ((Ext.refl _).alloc _).alloc _⟩
 · simp
 simp
theorem run_neq_map_nil (w : World) (b : Nat) : (binOp .neq 88 (.map (some b)) (.map none)).run Tryz.prog w = .ok (.bool true) w := by
 have h := Go.Proofs.run_equalIn_map_nil_sl (P := Tryz.prog) w 9999 88 _ _ (some b) Tryz.underlying88;simp only [binOp];simp [show ∀ t x y, Op.equal t x y = Op.equalIn (9999 + 1) t x y from fun _ _ _ => rfl, h]
theorem a30 (w : World) (g b : Nat) (L : List Cnt.S) (h : CM w g b L) : Calls Tryz.prog 45 #[.pointer (some ⟨g, 0, none⟩)] w fun e w' => e = .returned (.bool true) ∧ w = w' := by
 have hc := h.box.cell 0;have hc : w.cell? ⟨g, 0, none⟩ = some (.map (some b)) := hc;have hq := fun w => run_neq_map_nil w b
 clear h
 go_enter Tryz.func45, Tryz.ntmps45
 go_wp2
 go_ret
 exact ⟨rfl, rfl⟩
end Go.Proofs.YtdkejfjcchlnpaaGreat.Ct
