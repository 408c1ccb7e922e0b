/-
  PlLives, packed: what the claim needs of them.
-/
import Derived.Test.YtcacicgkebcdkaaPe37
import Derived.Test.YtcacicgkebcdkaaPe38
set_option linter.unusedSimpArgs false
set_option linter.unusedVariables false
set_option maxRecDepth 100000
namespace Go.Ox.Pl
open Go.Ox.Gr Go.Proofs.Ytcacicgkebcdkaa
def g0 : G := (reachL, 2)
theorem live_w0 : wayO g0 ((2, 6) : Int × Int) ((2, 0) : Int × Int) = some (false, 1) := by decide +kernel
theorem live_w1 : wayO g0 ((2, 6) : Int × Int) ((2, -1) : Int × Int) = some (true, 0) := by decide +kernel
theorem live_w2 : wayO g0 ((0, -1) : Int × Int) ((2, 6) : Int × Int) = some (true, 0) := by decide +kernel
theorem live_w3 : wayO g0 ((2, 1) : Int × Int) ((2, 0) : Int × Int) = some (false, 1) := by decide +kernel
theorem live_w4 : wayO g0 ((2, -1) : Int × Int) ((2, 0) : Int × Int) = none := by decide +kernel
theorem live_pl : (gPl g0).length = 10 := by decide +kernel
theorem live_in : (insL g0).length = 7 := by decide +kernel
theorem live_la : (insL g0).getLast? = some (2, 6) := by decide +kernel
theorem live_so : (srcL g0 (2, 0)).length = 2 := by decide +kernel
theorem live_ar : (arcsL g0).length = 13 := by decide +kernel
theorem live_l1 : leadsB g0 (2, 6) (0, 3) (2, 0) (0, 4) = true := by unfold leadsB; rw [live_w0]; decide +kernel
theorem live_l2 : leadsB g0 (2, 6) (0, 3) (2, 0) (0, 3) = false := by unfold leadsB; rw [live_w0]; decide +kernel
end Go.Ox.Pl
namespace Go.Proofs.Ytcacicgkebcdkaa
open Go.RowKit Go.Ox Go.Ox.Gr Mo
attribute [local irreducible] RE OE NodesR
set_option maxHeartbeats 400000 in
theorem in_any (n : Int) (w : World) : Calls Try.prog 25 #[.int .i64 n] w fun e w' => e = .returned (.agg #[.int .i64 2, .int .i64 n]) ∧ Ext w w' := by
  have HX := Lib.hid ((Ext.refl w).alloc (.cells #[.int .i64 0, .int .i64 0] 26))
  have HB := Lib.hid (Blk.new w 26 #[.int .i64 0, .int .i64 0])
  go_enter Try.func25, Try.ntmps25
  go_upto_region 1 with fail
  obtain ⟨p, hp⟩ : ∃ p, p = w.heap.size := ⟨_, rfl⟩
  rw [← hp] at HB ⊢
  have HPS := Lib.hid (Nat.le_of_eq hp.symm)
  clear hp
  generalize w.alloc (.cells #[.int .i64 0, .int .i64 0] 26) = w1 at *
  have s0 := HB.out.cell 0
  have s1 := HB.out.cell 1
  have f0 := HB.out.frozen 0
  have f1 := HB.out.frozen 1
  have t0 := fun u => (HB.out.set_ 0 u).frozen 1
  have t1 := fun u => (HB.out.set_ 0 u).cell 1
  go_wp2
  obtain ⟨y0, y1, hy⟩ := res2 HB.out HX.out HPS.out (.int .i64 2) (.int .i64 n)
  generalize ((w1.setCell ⟨p, 0, none⟩ (.int .i64 2)).setCell ⟨p, 1, none⟩ (.int .i64 n)) = wr9 at *
  exact bodyPost_ret (v := .agg #[.int .i64 2, .int .i64 n]) (by simp [results, Try.results25, go_sem, y0, y1]) rfl ⟨rfl, hy⟩
set_option maxHeartbeats 400000 in
theorem out_any (n : Int) (w : World) : Calls Try.prog 26 #[.int .i64 n] w fun e w' => e = .returned (.agg #[.int .i64 n, .int .i64 (-1)]) ∧ Ext w w' := by
  have HX := Lib.hid ((Ext.refl w).alloc (.cells #[.int .i64 0, .int .i64 0] 26))
  have HB := Lib.hid (Blk.new w 26 #[.int .i64 0, .int .i64 0])
  go_enter Try.func26, Try.ntmps26
  go_upto_region 1 with fail
  obtain ⟨p, hp⟩ : ∃ p, p = w.heap.size := ⟨_, rfl⟩
  rw [← hp] at HB ⊢
  have HPS := Lib.hid (Nat.le_of_eq hp.symm)
  clear hp
  generalize w.alloc (.cells #[.int .i64 0, .int .i64 0] 26) = w1 at *
  have s0 := HB.out.cell 0
  have s1 := HB.out.cell 1
  have f0 := HB.out.frozen 0
  have f1 := HB.out.frozen 1
  have t0 := fun u => (HB.out.set_ 0 u).frozen 1
  have t1 := fun u => (HB.out.set_ 0 u).cell 1
  go_wp2
  obtain ⟨y0, y1, hy⟩ := res2 HB.out HX.out HPS.out (.int .i64 n) (.int .i64 (-1))
  generalize ((w1.setCell ⟨p, 0, none⟩ (.int .i64 n)).setCell ⟨p, 1, none⟩ (.int .i64 (-1))) = wr9 at *
  exact bodyPost_ret (v := .agg #[.int .i64 n, .int .i64 (-1)]) (by simp [results, Try.results26, go_sem, y0, y1]) rfl ⟨rfl, hy⟩
theorem box_at {w0 W0 wa : World} {n : Nat} {cs : Array Value} {t : TypeId} (h2 : Ext W0 wa) (h : W0.heap[n]? = some (.cells cs t)) (hs : w0.heap.size ≤ n) : Blk wa n t cs ∧ w0.heap.size ≤ n := ⟨Blk.ext (w := W0) h h2, hs⟩
theorem box_old {w0 wp W0 wa : World} {n : Nat} {cs : Array Value} {t : TypeId} (h : Blk wp n t cs ∧ w0.heap.size ≤ n) (h1 : Ext wp W0) (h2 : Ext W0 wa) : Blk wa n t cs ∧ w0.heap.size ≤ n := ⟨(h.1.ext h1).ext h2, h.2⟩
set_option maxHeartbeats 60000000 in
theorem lives20_any (w : World) : Calls Try.prog 8 #[] w fun e w' => e = .returned (.bool true) ∧ Ext w w' := by
  have HW := Lib.hid (fun u p q W (h : NodesR 2 W u reachL) => way_any 2 u Pl.g0 p q W h (by rw [Pl.live_pl]; omega))
  have HLA := Lib.hid (fun u W (h : NodesR 2 W u reachL) => last_any 2 u Pl.g0 W h)
  have HIN := Lib.hid (fun u W (h : NodesR 2 W u reachL) => inside_any 2 u Pl.g0 W h)
  have HSO := Lib.hid (fun u W (h : NodesR 2 W u reachL) => sources_any 2 u Pl.g0 (2, 0) W h (by rw [Pl.live_pl]; omega))
  have HAR := Lib.hid (fun u W (h : NodesR 2 W u reachL) => arcs_own 2 u Pl.g0 W h (by rw [Pl.live_pl]; omega))
  have HL1 := Lib.hid (fun u W (h : NodesR 2 W u reachL) => leads_any 2 u Pl.g0 (2, 6) (0, 3) (2, 0) (0, 4) W h (by rw [Pl.live_pl]; omega))
  have HL2 := Lib.hid (fun u W (h : NodesR 2 W u reachL) => leads_any 2 u Pl.g0 (2, 6) (0, 3) (2, 0) (0, 3) W h (by rw [Pl.live_pl]; omega))
  rw [Pl.live_l1] at HL1
  rw [Pl.live_l2] at HL2
  rw [show lastO (Pl.insL Pl.g0) = .tuple #[plV (2, 6), .bool true] from by unfold lastO; rw [Pl.live_la]] at HLA
  have HNI := Lib.hid Pl.live_in
  have HNS := Lib.hid Pl.live_so
  have HNA := Lib.hid Pl.live_ar
  generalize Pl.insL Pl.g0 = IL at *
  generalize Pl.srcL Pl.g0 (2, 0) = SL at *
  generalize Pl.arcsL Pl.g0 = AL at *
  go_enter Try.func8, Try.ntmps8
  go_wp2_with fail
  refine (reach_any w).mono ?_
  rintro e w1 ⟨u, rfl, hu, he1⟩
  have HX1 := Lib.hid (he1.alloc (gCs u 2))
  have HU1 := Lib.hid (hu.ext ((Ext.refl _).alloc (gCs u 2)))
  have HB1 := Lib.hid (Blk.new w1 24 #[u, .int .i64 2])
  obtain ⟨A, c, rfl⟩ := hu.form
  clear hu he1
  go_upto_region 2 with fail
  obtain ⟨p, hp⟩ : ∃ p, p = w1.heap.size := ⟨_, rfl⟩
  rw [← hp] at HB1 ⊢
  clear hp
  generalize w1.alloc (gCs (.slice A reachL.length c) 2) = w2 at *
  have HX := HX1
  have HU := HU1
  have HB := HB1
  clear HX1 HU1 HB1
  have c0 : w2.cell? ⟨p, 0, none⟩ = some (.slice A reachL.length c) := HB.out.cell 0
  have c1 : w2.cell? ⟨p, 1, none⟩ = some (.int .i64 2) := HB.out.cell 1
  have HC := Lib.hid (fun W (h : Ext w2 W) => HW.out (.slice A reachL.length c) (2, 6) (2, 0) W (HU.out.ext h))
  rw [Pl.live_w0] at HC
  have hA := World.block_lt_of_cell? w2 _ c0
  simp only at hA
  have hA1 : ¬ p = w2.heap.size := by omega
  have c0o := fun o => (((Ext.refl w2).drew).alloc o).cell c0
  have c1o := fun o => (((Ext.refl w2).drew).alloc o).cell c1
  go_cut [2, 3] (fun s7 s8 wx => ∃ n7, s7 = .pointer (some ⟨n7, 0, none⟩) ∧ s8 = .bool true ∧ Blk wx n7 37 #[.bool false, .int .i64 1] ∧ Ext w2 wx)
  case first => as_aux_lemma =>
    clear HW HLA HIN HSO HAR HL1 HL2 HX HU HB
    rename_i xa xJ xK xb xc
    clear xa
    go_region_with (first
      | (go_at_call 25; refine (in_any 6 _).mono ?_; rintro e wa ⟨rfl, hea⟩; have hqa := Ext.trans (a := w2) (by (repeat (first | exact Ext.refl _ | refine Ext.drew ?_ | refine Ext.alloc ?_ _)); done) hea; have c0a := hqa.cell c0; have c1a := hqa.cell c1; have c0ao := (fun o => (Ext.alloc hqa o).cell c0); have c1ao := (fun o => (Ext.alloc hqa o).cell c1); have hAa : ¬ p = wa.heap.size := (by have := hqa.size; omega); (first | (have HNa := box_at (w0 := w2) (n := w2.heap.size) (cs := #[.bool false, .int .i64 0]) (t := 37) hea (heap_alloc_new w2 _) (Ext.refl w2).size) | skip))
      | (go_at_call 25; refine (in_any 0 _).mono ?_; rintro e wb ⟨rfl, heb⟩; have hqb := Ext.trans (a := w2) (by repeat (first | exact hqa | exact Ext.refl _ | refine Ext.drew ?_ | refine Ext.alloc ?_ _)) heb; have c0b := hqb.cell c0; have c1b := hqb.cell c1; have c0bo := (fun o => (Ext.alloc hqb o).cell c0); have c1bo := (fun o => (Ext.alloc hqb o).cell c1); have hAb : ¬ p = wb.heap.size := (by have := hqb.size; omega); (first | (have HNb := box_old HNa (by (repeat (first | exact Ext.refl _ | refine Ext.drew ?_ | refine Ext.alloc ?_ _)); done) heb) | (have HNb := box_at (w0 := w2) (n := w2.heap.size) (cs := #[.bool false, .int .i64 0]) (t := 37) heb (heap_alloc_new w2 _) (Ext.refl w2).size) | (have HNb := box_at (w0 := w2) (n := wa.heap.size) (cs := #[.bool false, .int .i64 0]) (t := 37) heb (heap_alloc_new wa _) hqa.size) | skip))
      | (go_at_call 18; refine (HC.out _ (by repeat (first | exact hqb | refine Ext.drew ?_ | refine Ext.alloc ?_ _))).mono ?_; rintro e wc ⟨rfl, hec⟩; have hqc := Ext.trans (a := w2) (by repeat (first | exact hqb | exact Ext.refl _ | refine Ext.drew ?_ | refine Ext.alloc ?_ _)) hec; have c0c := hqc.cell c0; have c1c := hqc.cell c1; have c0co := (fun o => (Ext.alloc hqc o).cell c0); have c1co := (fun o => (Ext.alloc hqc o).cell c1); have hAc : ¬ p = wc.heap.size := (by have := hqc.size; omega); (first | (have HNc := box_old HNb (by (repeat (first | exact Ext.refl _ | refine Ext.drew ?_ | refine Ext.alloc ?_ _)); done) hec) | (have HNc := box_at (w0 := w2) (n := w2.heap.size) (cs := #[.bool false, .int .i64 0]) (t := 37) hec (heap_alloc_new w2 _) (Ext.refl w2).size) | (have HNc := box_at (w0 := w2) (n := wa.heap.size) (cs := #[.bool false, .int .i64 0]) (t := 37) hec (heap_alloc_new wa _) hqa.size) | (have HNc := box_at (w0 := w2) (n := wb.heap.size) (cs := #[.bool false, .int .i64 0]) (t := 37) hec (heap_alloc_new wb _) hqb.size) | skip); (try (have b0 := HNc.1.cell 0; have b1 := HNc.1.cell 1; have f0 := HNc.1.frozen 0; have f1 := HNc.1.frozen 1; have t0 := fun u => (HNc.1.set_ 0 u).frozen 1; have t1 := fun u => (HNc.1.set_ 0 u).cell 1))))
    all_goals go_wp2
    all_goals go_meet
    all_goals first
      | exact ⟨_, rfl, rfl, Blk.fill2 HNc.1 (.bool false) (.int .i64 1), (res2 HNc.1 hqc HNc.2 (.bool false) (.int .i64 1)).2.2⟩
      | exact ⟨_, rfl, rfl, Blk.new wc 37 #[.bool false, .int .i64 1], hqc.alloc _⟩
  case rest =>
  obtain ⟨n0, rfl, rfl, hb0, hx9⟩ := hcut
  rename World => w3
  have HW0 := Lib.hid hb0
  go_upto_region 3 with fail
  have HX := Lib.hid (HX.out.trans hx9)
  have HU := Lib.hid (HU.out.ext hx9)
  have HB := Lib.hid (HB.out.ext hx9)
  clear hx9 hb0 HC c0 c1 c0o c1o hA1 hA
  have c0 : w3.cell? ⟨p, 0, none⟩ = some (.slice A reachL.length c) := HB.out.cell 0
  have c1 : w3.cell? ⟨p, 1, none⟩ = some (.int .i64 2) := HB.out.cell 1
  have HC := Lib.hid (fun W (h : Ext w3 W) => HW.out (.slice A reachL.length c) (2, 6) (2, -1) W (HU.out.ext h))
  rw [Pl.live_w1] at HC
  have hA := World.block_lt_of_cell? w3 _ c0
  simp only at hA
  have hA1 : ¬ p = w3.heap.size := by omega
  have c0o := fun o => (((Ext.refl w3).drew).alloc o).cell c0
  have c1o := fun o => (((Ext.refl w3).drew).alloc o).cell c1
  go_cut [4, 5] (fun s7 s8 wx => ∃ n7, s7 = .pointer (some ⟨n7, 0, none⟩) ∧ s8 = .bool true ∧ Blk wx n7 37 #[.bool true, .int .i64 0] ∧ Ext w3 wx)
  case first => as_aux_lemma =>
    clear HW HLA HIN HSO HAR HL1 HL2 HX HU HB HW0
    rename_i xa xJ xK xb xc
    clear xa
    go_region_with (first
      | (go_at_call 25; refine (in_any 6 _).mono ?_; rintro e wa ⟨rfl, hea⟩; have hqa := Ext.trans (a := w3) (by (repeat (first | exact Ext.refl _ | refine Ext.drew ?_ | refine Ext.alloc ?_ _)); done) hea; have c0a := hqa.cell c0; have c1a := hqa.cell c1; have c0ao := (fun o => (Ext.alloc hqa o).cell c0); have c1ao := (fun o => (Ext.alloc hqa o).cell c1); have hAa : ¬ p = wa.heap.size := (by have := hqa.size; omega); (first | (have HNa := box_at (w0 := w3) (n := w3.heap.size) (cs := #[.bool false, .int .i64 0]) (t := 37) hea (heap_alloc_new w3 _) (Ext.refl w3).size) | skip))
      | (go_at_call 26; refine (out_any 2 _).mono ?_; rintro e wb ⟨rfl, heb⟩; have hqb := Ext.trans (a := w3) (by repeat (first | exact hqa | exact Ext.refl _ | refine Ext.drew ?_ | refine Ext.alloc ?_ _)) heb; have c0b := hqb.cell c0; have c1b := hqb.cell c1; have c0bo := (fun o => (Ext.alloc hqb o).cell c0); have c1bo := (fun o => (Ext.alloc hqb o).cell c1); have hAb : ¬ p = wb.heap.size := (by have := hqb.size; omega); (first | (have HNb := box_old HNa (by (repeat (first | exact Ext.refl _ | refine Ext.drew ?_ | refine Ext.alloc ?_ _)); done) heb) | (have HNb := box_at (w0 := w3) (n := w3.heap.size) (cs := #[.bool false, .int .i64 0]) (t := 37) heb (heap_alloc_new w3 _) (Ext.refl w3).size) | (have HNb := box_at (w0 := w3) (n := wa.heap.size) (cs := #[.bool false, .int .i64 0]) (t := 37) heb (heap_alloc_new wa _) hqa.size) | skip))
      | (go_at_call 18; refine (HC.out _ (by repeat (first | exact hqb | refine Ext.drew ?_ | refine Ext.alloc ?_ _))).mono ?_; rintro e wc ⟨rfl, hec⟩; have hqc := Ext.trans (a := w3) (by repeat (first | exact hqb | exact Ext.refl _ | refine Ext.drew ?_ | refine Ext.alloc ?_ _)) hec; have c0c := hqc.cell c0; have c1c := hqc.cell c1; have c0co := (fun o => (Ext.alloc hqc o).cell c0); have c1co := (fun o => (Ext.alloc hqc o).cell c1); have hAc : ¬ p = wc.heap.size := (by have := hqc.size; omega); (first | (have HNc := box_old HNb (by (repeat (first | exact Ext.refl _ | refine Ext.drew ?_ | refine Ext.alloc ?_ _)); done) hec) | (have HNc := box_at (w0 := w3) (n := w3.heap.size) (cs := #[.bool false, .int .i64 0]) (t := 37) hec (heap_alloc_new w3 _) (Ext.refl w3).size) | (have HNc := box_at (w0 := w3) (n := wa.heap.size) (cs := #[.bool false, .int .i64 0]) (t := 37) hec (heap_alloc_new wa _) hqa.size) | (have HNc := box_at (w0 := w3) (n := wb.heap.size) (cs := #[.bool false, .int .i64 0]) (t := 37) hec (heap_alloc_new wb _) hqb.size) | skip); (try (have b0 := HNc.1.cell 0; have b1 := HNc.1.cell 1; have f0 := HNc.1.frozen 0; have f1 := HNc.1.frozen 1; have t0 := fun u => (HNc.1.set_ 0 u).frozen 1; have t1 := fun u => (HNc.1.set_ 0 u).cell 1))))
    all_goals go_wp2
    all_goals go_meet
    all_goals first
      | exact ⟨_, rfl, rfl, Blk.fill2 HNc.1 (.bool true) (.int .i64 0), (res2 HNc.1 hqc HNc.2 (.bool true) (.int .i64 0)).2.2⟩
      | exact ⟨_, rfl, rfl, Blk.new wc 37 #[.bool true, .int .i64 0], hqc.alloc _⟩
  case rest =>
  obtain ⟨n1, rfl, rfl, hb1, hx9⟩ := hcut
  rename World => w4
  have HW1 := Lib.hid hb1
  go_upto_region 4 with fail
  have HW0 := Lib.hid (HW0.out.ext hx9)
  have HX := Lib.hid (HX.out.trans hx9)
  have HU := Lib.hid (HU.out.ext hx9)
  have HB := Lib.hid (HB.out.ext hx9)
  clear hx9 hb1 HC c0 c1 c0o c1o hA1 hA
  have c0 : w4.cell? ⟨p, 0, none⟩ = some (.slice A reachL.length c) := HB.out.cell 0
  have c1 : w4.cell? ⟨p, 1, none⟩ = some (.int .i64 2) := HB.out.cell 1
  have HC := Lib.hid (fun W (h : Ext w4 W) => HW.out (.slice A reachL.length c) (0, -1) (2, 6) W (HU.out.ext h))
  rw [Pl.live_w2] at HC
  have hA := World.block_lt_of_cell? w4 _ c0
  simp only at hA
  have hA1 : ¬ p = w4.heap.size := by omega
  have c0o := fun o => (((Ext.refl w4).drew).alloc o).cell c0
  have c1o := fun o => (((Ext.refl w4).drew).alloc o).cell c1
  go_cut [6, 7] (fun s7 s8 wx => ∃ n7, s7 = .pointer (some ⟨n7, 0, none⟩) ∧ s8 = .bool true ∧ Blk wx n7 37 #[.bool true, .int .i64 0] ∧ Ext w4 wx)
  case first => as_aux_lemma =>
    clear HW HLA HIN HSO HAR HL1 HL2 HX HU HB HW0 HW1
    rename_i xa xJ xK xb xc
    clear xa
    go_region_with (first
      | (go_at_call 26; refine (out_any 0 _).mono ?_; rintro e wa ⟨rfl, hea⟩; have hqa := Ext.trans (a := w4) (by (repeat (first | exact Ext.refl _ | refine Ext.drew ?_ | refine Ext.alloc ?_ _)); done) hea; have c0a := hqa.cell c0; have c1a := hqa.cell c1; have c0ao := (fun o => (Ext.alloc hqa o).cell c0); have c1ao := (fun o => (Ext.alloc hqa o).cell c1); have hAa : ¬ p = wa.heap.size := (by have := hqa.size; omega); (first | (have HNa := box_at (w0 := w4) (n := w4.heap.size) (cs := #[.bool false, .int .i64 0]) (t := 37) hea (heap_alloc_new w4 _) (Ext.refl w4).size) | skip))
      | (go_at_call 25; refine (in_any 6 _).mono ?_; rintro e wb ⟨rfl, heb⟩; have hqb := Ext.trans (a := w4) (by repeat (first | exact hqa | exact Ext.refl _ | refine Ext.drew ?_ | refine Ext.alloc ?_ _)) heb; have c0b := hqb.cell c0; have c1b := hqb.cell c1; have c0bo := (fun o => (Ext.alloc hqb o).cell c0); have c1bo := (fun o => (Ext.alloc hqb o).cell c1); have hAb : ¬ p = wb.heap.size := (by have := hqb.size; omega); (first | (have HNb := box_old HNa (by (repeat (first | exact Ext.refl _ | refine Ext.drew ?_ | refine Ext.alloc ?_ _)); done) heb) | (have HNb := box_at (w0 := w4) (n := w4.heap.size) (cs := #[.bool false, .int .i64 0]) (t := 37) heb (heap_alloc_new w4 _) (Ext.refl w4).size) | (have HNb := box_at (w0 := w4) (n := wa.heap.size) (cs := #[.bool false, .int .i64 0]) (t := 37) heb (heap_alloc_new wa _) hqa.size) | skip))
      | (go_at_call 18; refine (HC.out _ (by repeat (first | exact hqb | refine Ext.drew ?_ | refine Ext.alloc ?_ _))).mono ?_; rintro e wc ⟨rfl, hec⟩; have hqc := Ext.trans (a := w4) (by repeat (first | exact hqb | exact Ext.refl _ | refine Ext.drew ?_ | refine Ext.alloc ?_ _)) hec; have c0c := hqc.cell c0; have c1c := hqc.cell c1; have c0co := (fun o => (Ext.alloc hqc o).cell c0); have c1co := (fun o => (Ext.alloc hqc o).cell c1); have hAc : ¬ p = wc.heap.size := (by have := hqc.size; omega); (first | (have HNc := box_old HNb (by (repeat (first | exact Ext.refl _ | refine Ext.drew ?_ | refine Ext.alloc ?_ _)); done) hec) | (have HNc := box_at (w0 := w4) (n := w4.heap.size) (cs := #[.bool false, .int .i64 0]) (t := 37) hec (heap_alloc_new w4 _) (Ext.refl w4).size) | (have HNc := box_at (w0 := w4) (n := wa.heap.size) (cs := #[.bool false, .int .i64 0]) (t := 37) hec (heap_alloc_new wa _) hqa.size) | (have HNc := box_at (w0 := w4) (n := wb.heap.size) (cs := #[.bool false, .int .i64 0]) (t := 37) hec (heap_alloc_new wb _) hqb.size) | skip); (try (have b0 := HNc.1.cell 0; have b1 := HNc.1.cell 1; have f0 := HNc.1.frozen 0; have f1 := HNc.1.frozen 1; have t0 := fun u => (HNc.1.set_ 0 u).frozen 1; have t1 := fun u => (HNc.1.set_ 0 u).cell 1))))
    all_goals go_wp2
    all_goals go_meet
    all_goals first
      | exact ⟨_, rfl, rfl, Blk.fill2 HNc.1 (.bool true) (.int .i64 0), (res2 HNc.1 hqc HNc.2 (.bool true) (.int .i64 0)).2.2⟩
      | exact ⟨_, rfl, rfl, Blk.new wc 37 #[.bool true, .int .i64 0], hqc.alloc _⟩
  case rest =>
  obtain ⟨n2, rfl, rfl, hb2, hx9⟩ := hcut
  rename World => w5
  have HW2 := Lib.hid hb2
  go_upto_region 5 with fail
  have HW0 := Lib.hid (HW0.out.ext hx9)
  have HW1 := Lib.hid (HW1.out.ext hx9)
  have HX := Lib.hid (HX.out.trans hx9)
  have HU := Lib.hid (HU.out.ext hx9)
  have HB := Lib.hid (HB.out.ext hx9)
  clear hx9 hb2 HC c0 c1 c0o c1o hA1 hA
  have c0 : w5.cell? ⟨p, 0, none⟩ = some (.slice A reachL.length c) := HB.out.cell 0
  have c1 : w5.cell? ⟨p, 1, none⟩ = some (.int .i64 2) := HB.out.cell 1
  have HC := Lib.hid (fun W (h : Ext w5 W) => HW.out (.slice A reachL.length c) (2, 1) (2, 0) W (HU.out.ext h))
  rw [Pl.live_w3] at HC
  have hA := World.block_lt_of_cell? w5 _ c0
  simp only at hA
  have hA1 : ¬ p = w5.heap.size := by omega
  have c0o := fun o => (((Ext.refl w5).drew).alloc o).cell c0
  have c1o := fun o => (((Ext.refl w5).drew).alloc o).cell c1
  go_cut [8, 9] (fun s7 s8 wx => ∃ n7, s7 = .pointer (some ⟨n7, 0, none⟩) ∧ s8 = .bool true ∧ Blk wx n7 37 #[.bool false, .int .i64 1] ∧ Ext w5 wx)
  case first => as_aux_lemma =>
    clear HW HLA HIN HSO HAR HL1 HL2 HX HU HB HW0 HW1 HW2
    rename_i xa xJ xK xb xc
    clear xa
    go_region_with (first
      | (go_at_call 25; refine (in_any 1 _).mono ?_; rintro e wa ⟨rfl, hea⟩; have hqa := Ext.trans (a := w5) (by (repeat (first | exact Ext.refl _ | refine Ext.drew ?_ | refine Ext.alloc ?_ _)); done) hea; have c0a := hqa.cell c0; have c1a := hqa.cell c1; have c0ao := (fun o => (Ext.alloc hqa o).cell c0); have c1ao := (fun o => (Ext.alloc hqa o).cell c1); have hAa : ¬ p = wa.heap.size := (by have := hqa.size; omega); (first | (have HNa := box_at (w0 := w5) (n := w5.heap.size) (cs := #[.bool false, .int .i64 0]) (t := 37) hea (heap_alloc_new w5 _) (Ext.refl w5).size) | skip))
      | (go_at_call 25; refine (in_any 0 _).mono ?_; rintro e wb ⟨rfl, heb⟩; have hqb := Ext.trans (a := w5) (by repeat (first | exact hqa | exact Ext.refl _ | refine Ext.drew ?_ | refine Ext.alloc ?_ _)) heb; have c0b := hqb.cell c0; have c1b := hqb.cell c1; have c0bo := (fun o => (Ext.alloc hqb o).cell c0); have c1bo := (fun o => (Ext.alloc hqb o).cell c1); have hAb : ¬ p = wb.heap.size := (by have := hqb.size; omega); (first | (have HNb := box_old HNa (by (repeat (first | exact Ext.refl _ | refine Ext.drew ?_ | refine Ext.alloc ?_ _)); done) heb) | (have HNb := box_at (w0 := w5) (n := w5.heap.size) (cs := #[.bool false, .int .i64 0]) (t := 37) heb (heap_alloc_new w5 _) (Ext.refl w5).size) | (have HNb := box_at (w0 := w5) (n := wa.heap.size) (cs := #[.bool false, .int .i64 0]) (t := 37) heb (heap_alloc_new wa _) hqa.size) | skip))
      | (go_at_call 18; refine (HC.out _ (by repeat (first | exact hqb | refine Ext.drew ?_ | refine Ext.alloc ?_ _))).mono ?_; rintro e wc ⟨rfl, hec⟩; have hqc := Ext.trans (a := w5) (by repeat (first | exact hqb | exact Ext.refl _ | refine Ext.drew ?_ | refine Ext.alloc ?_ _)) hec; have c0c := hqc.cell c0; have c1c := hqc.cell c1; have c0co := (fun o => (Ext.alloc hqc o).cell c0); have c1co := (fun o => (Ext.alloc hqc o).cell c1); have hAc : ¬ p = wc.heap.size := (by have := hqc.size; omega); (first | (have HNc := box_old HNb (by (repeat (first | exact Ext.refl _ | refine Ext.drew ?_ | refine Ext.alloc ?_ _)); done) hec) | (have HNc := box_at (w0 := w5) (n := w5.heap.size) (cs := #[.bool false, .int .i64 0]) (t := 37) hec (heap_alloc_new w5 _) (Ext.refl w5).size) | (have HNc := box_at (w0 := w5) (n := wa.heap.size) (cs := #[.bool false, .int .i64 0]) (t := 37) hec (heap_alloc_new wa _) hqa.size) | (have HNc := box_at (w0 := w5) (n := wb.heap.size) (cs := #[.bool false, .int .i64 0]) (t := 37) hec (heap_alloc_new wb _) hqb.size) | skip); (try (have b0 := HNc.1.cell 0; have b1 := HNc.1.cell 1; have f0 := HNc.1.frozen 0; have f1 := HNc.1.frozen 1; have t0 := fun u => (HNc.1.set_ 0 u).frozen 1; have t1 := fun u => (HNc.1.set_ 0 u).cell 1))))
    all_goals go_wp2
    all_goals go_meet
    all_goals first
      | exact ⟨_, rfl, rfl, Blk.fill2 HNc.1 (.bool false) (.int .i64 1), (res2 HNc.1 hqc HNc.2 (.bool false) (.int .i64 1)).2.2⟩
      | exact ⟨_, rfl, rfl, Blk.new wc 37 #[.bool false, .int .i64 1], hqc.alloc _⟩
  case rest =>
  obtain ⟨n3, rfl, rfl, hb3, hx9⟩ := hcut
  rename World => w6
  have HW3 := Lib.hid hb3
  go_upto_region 6 with fail
  have HW0 := Lib.hid (HW0.out.ext hx9)
  have HW1 := Lib.hid (HW1.out.ext hx9)
  have HW2 := Lib.hid (HW2.out.ext hx9)
  have HX := Lib.hid (HX.out.trans hx9)
  have HU := Lib.hid (HU.out.ext hx9)
  have HB := Lib.hid (HB.out.ext hx9)
  clear hx9 hb3 HC c0 c1 c0o c1o hA1 hA
  have c0 : w6.cell? ⟨p, 0, none⟩ = some (.slice A reachL.length c) := HB.out.cell 0
  have c1 : w6.cell? ⟨p, 1, none⟩ = some (.int .i64 2) := HB.out.cell 1
  have HC := Lib.hid (fun W (h : Ext w6 W) => HW.out (.slice A reachL.length c) (2, -1) (2, 0) W (HU.out.ext h))
  rw [Pl.live_w4] at HC
  have hA := World.block_lt_of_cell? w6 _ c0
  simp only at hA
  have hA1 : ¬ p = w6.heap.size := by omega
  have c0o := fun o => (((Ext.refl w6).drew).alloc o).cell c0
  have c1o := fun o => (((Ext.refl w6).drew).alloc o).cell c1
  go_cut [10, 11] (fun s7 s8 wx => ∃ n7, s7 = .pointer (some ⟨n7, 0, none⟩) ∧ s8 = .bool false ∧ Blk wx n7 37 #[.bool false, .int .i64 0] ∧ Ext w6 wx)
  case first => as_aux_lemma =>
    clear HW HLA HIN HSO HAR HL1 HL2 HX HU HB HW0 HW1 HW2 HW3
    rename_i xa xJ xK xb xc
    clear xa
    go_region_with (first
      | (go_at_call 26; refine (out_any 2 _).mono ?_; rintro e wa ⟨rfl, hea⟩; have hqa := Ext.trans (a := w6) (by (repeat (first | exact Ext.refl _ | refine Ext.drew ?_ | refine Ext.alloc ?_ _)); done) hea; have c0a := hqa.cell c0; have c1a := hqa.cell c1; have c0ao := (fun o => (Ext.alloc hqa o).cell c0); have c1ao := (fun o => (Ext.alloc hqa o).cell c1); have hAa : ¬ p = wa.heap.size := (by have := hqa.size; omega); (first | (have HNa := box_at (w0 := w6) (n := w6.heap.size) (cs := #[.bool false, .int .i64 0]) (t := 37) hea (heap_alloc_new w6 _) (Ext.refl w6).size) | skip))
      | (go_at_call 25; refine (in_any 0 _).mono ?_; rintro e wb ⟨rfl, heb⟩; have hqb := Ext.trans (a := w6) (by repeat (first | exact hqa | exact Ext.refl _ | refine Ext.drew ?_ | refine Ext.alloc ?_ _)) heb; have c0b := hqb.cell c0; have c1b := hqb.cell c1; have c0bo := (fun o => (Ext.alloc hqb o).cell c0); have c1bo := (fun o => (Ext.alloc hqb o).cell c1); have hAb : ¬ p = wb.heap.size := (by have := hqb.size; omega); (first | (have HNb := box_old HNa (by (repeat (first | exact Ext.refl _ | refine Ext.drew ?_ | refine Ext.alloc ?_ _)); done) heb) | (have HNb := box_at (w0 := w6) (n := w6.heap.size) (cs := #[.bool false, .int .i64 0]) (t := 37) heb (heap_alloc_new w6 _) (Ext.refl w6).size) | (have HNb := box_at (w0 := w6) (n := wa.heap.size) (cs := #[.bool false, .int .i64 0]) (t := 37) heb (heap_alloc_new wa _) hqa.size) | skip))
      | (go_at_call 18; refine (HC.out _ (by repeat (first | exact hqb | refine Ext.drew ?_ | refine Ext.alloc ?_ _))).mono ?_; rintro e wc ⟨rfl, hec⟩; have hqc := Ext.trans (a := w6) (by repeat (first | exact hqb | exact Ext.refl _ | refine Ext.drew ?_ | refine Ext.alloc ?_ _)) hec; have c0c := hqc.cell c0; have c1c := hqc.cell c1; have c0co := (fun o => (Ext.alloc hqc o).cell c0); have c1co := (fun o => (Ext.alloc hqc o).cell c1); have hAc : ¬ p = wc.heap.size := (by have := hqc.size; omega); (first | (have HNc := box_old HNb (by (repeat (first | exact Ext.refl _ | refine Ext.drew ?_ | refine Ext.alloc ?_ _)); done) hec) | (have HNc := box_at (w0 := w6) (n := w6.heap.size) (cs := #[.bool false, .int .i64 0]) (t := 37) hec (heap_alloc_new w6 _) (Ext.refl w6).size) | (have HNc := box_at (w0 := w6) (n := wa.heap.size) (cs := #[.bool false, .int .i64 0]) (t := 37) hec (heap_alloc_new wa _) hqa.size) | (have HNc := box_at (w0 := w6) (n := wb.heap.size) (cs := #[.bool false, .int .i64 0]) (t := 37) hec (heap_alloc_new wb _) hqb.size) | skip); (try (have b0 := HNc.1.cell 0; have b1 := HNc.1.cell 1; have f0 := HNc.1.frozen 0; have f1 := HNc.1.frozen 1; have t0 := fun u => (HNc.1.set_ 0 u).frozen 1; have t1 := fun u => (HNc.1.set_ 0 u).cell 1))))
    all_goals go_wp2
    all_goals go_meet
    all_goals first
      | exact ⟨_, rfl, rfl, Blk.fill2 HNc.1 (.bool false) (.int .i64 0), (res2 HNc.1 hqc HNc.2 (.bool false) (.int .i64 0)).2.2⟩
      | exact ⟨_, rfl, rfl, Blk.new wc 37 #[.bool false, .int .i64 0], hqc.alloc _⟩
  case rest =>
  obtain ⟨n4, rfl, rfl, hb4, hx9⟩ := hcut
  rename World => w7
  have HW4 := Lib.hid hb4
  have HW0 := Lib.hid (HW0.out.ext hx9)
  have HW1 := Lib.hid (HW1.out.ext hx9)
  have HW2 := Lib.hid (HW2.out.ext hx9)
  have HW3 := Lib.hid (HW3.out.ext hx9)
  have HX := Lib.hid (HX.out.trans hx9)
  have HU := Lib.hid (HU.out.ext hx9)
  have HB := Lib.hid (HB.out.ext hx9)
  clear hx9 hb4 HC c0 c1 c0o c1o hA1 hA
  have c0 : w7.cell? ⟨p, 0, none⟩ = some (.slice A reachL.length c) := HB.out.cell 0
  have c1 : w7.cell? ⟨p, 1, none⟩ = some (.int .i64 2) := HB.out.cell 1
  have d0 : w7.cell? ⟨n0, 0, none⟩ = some (.bool false) := HW0.out.cell 0
  have g0 : w7.cell? ⟨n0, 1, none⟩ = some (.int .i64 1) := HW0.out.cell 1
  have d1 : w7.cell? ⟨n1, 0, none⟩ = some (.bool true) := HW1.out.cell 0
  have g1 : w7.cell? ⟨n1, 1, none⟩ = some (.int .i64 0) := HW1.out.cell 1
  have d2 : w7.cell? ⟨n2, 0, none⟩ = some (.bool true) := HW2.out.cell 0
  have g2 : w7.cell? ⟨n2, 1, none⟩ = some (.int .i64 0) := HW2.out.cell 1
  have d3 : w7.cell? ⟨n3, 0, none⟩ = some (.bool false) := HW3.out.cell 0
  have g3 : w7.cell? ⟨n3, 1, none⟩ = some (.int .i64 1) := HW3.out.cell 1
  have d4 : w7.cell? ⟨n4, 0, none⟩ = some (.bool false) := HW4.out.cell 0
  have g4 : w7.cell? ⟨n4, 1, none⟩ = some (.int .i64 0) := HW4.out.cell 1
  have HE1 := Lib.hid (show ∀ w, (binOp .eql 37 (.agg #[.bool false, .int .i64 1]) (.agg #[.bool false, .int .i64 1])).run Try.prog w = .ok (.bool true) w from fun w => by rw [eqWyD]; rfl)
  have HE2 := Lib.hid (show ∀ w, (binOp .eql 37 (.agg #[.bool true, .int .i64 0]) (.agg #[.bool true, .int .i64 0])).run Try.prog w = .ok (.bool true) w from fun w => by rw [eqWyD]; rfl)
  have HE3 := Lib.hid (show ∀ w, (binOp .eql 26 (.agg #[.int .i64 2, .int .i64 6]) (.agg #[.int .i64 2, .int .i64 6])).run Try.prog w = .ok (.bool true) w from fun w => by rw [eqPlD]; rfl)
  go_wp2_with fail
  refine (HLA.out _ w7 HU.out).mono ?_
  rintro e w8 ⟨rfl, he⟩
  have he8 := he.alloc (.cells #[.int .i64 2, .int .i64 6] 26)
  have HP := Lib.hid (Blk.new w8 26 #[.int .i64 2, .int .i64 6])
  clear c0 c1 d0 g0 d1 g1 d2 g2 d3 g3 d4 g4
  have HX := Lib.hid (HX.out.trans he8)
  have HU := Lib.hid (HU.out.ext he8)
  have HB := Lib.hid (HB.out.ext he8)
  have HW0 := Lib.hid (HW0.out.ext he8)
  have HW1 := Lib.hid (HW1.out.ext he8)
  have HW2 := Lib.hid (HW2.out.ext he8)
  have HW3 := Lib.hid (HW3.out.ext he8)
  have HW4 := Lib.hid (HW4.out.ext he8)
  clear he8
  clear he
  go_upto_region 8 with fail
  obtain ⟨n5, hn5⟩ : ∃ n, n = w8.heap.size := ⟨_, rfl⟩
  rw [← hn5] at HP ⊢
  clear hn5
  generalize w8.alloc (.cells #[.int .i64 2, .int .i64 6] 26) = w9 at *
  have c0 : w9.cell? ⟨p, 0, none⟩ = some (.slice A reachL.length c) := HB.out.cell 0
  have c1 : w9.cell? ⟨p, 1, none⟩ = some (.int .i64 2) := HB.out.cell 1
  have d0 : w9.cell? ⟨n0, 0, none⟩ = some (.bool false) := HW0.out.cell 0
  have g0 : w9.cell? ⟨n0, 1, none⟩ = some (.int .i64 1) := HW0.out.cell 1
  have d1 : w9.cell? ⟨n1, 0, none⟩ = some (.bool true) := HW1.out.cell 0
  have g1 : w9.cell? ⟨n1, 1, none⟩ = some (.int .i64 0) := HW1.out.cell 1
  have d2 : w9.cell? ⟨n2, 0, none⟩ = some (.bool true) := HW2.out.cell 0
  have g2 : w9.cell? ⟨n2, 1, none⟩ = some (.int .i64 0) := HW2.out.cell 1
  have d3 : w9.cell? ⟨n3, 0, none⟩ = some (.bool false) := HW3.out.cell 0
  have g3 : w9.cell? ⟨n3, 1, none⟩ = some (.int .i64 1) := HW3.out.cell 1
  have d4 : w9.cell? ⟨n4, 0, none⟩ = some (.bool false) := HW4.out.cell 0
  have g4 : w9.cell? ⟨n4, 1, none⟩ = some (.int .i64 0) := HW4.out.cell 1
  have d5 : w9.cell? ⟨n5, 0, none⟩ = some (.int .i64 2) := HP.out.cell 0
  have g5 : w9.cell? ⟨n5, 1, none⟩ = some (.int .i64 6) := HP.out.cell 1
  as_aux_lemma =>
    go_wp2
    refine wp_regionY [] [] Ext Ext (fun _ => True) (by kernel_rfl) (by rfl) (by rfl) (by kernel_rfl) (by kernel_rfl) (by kernel_rfl) (fun _ _ _ x y => x.trans y) Ext.refl (fun _ _ x => x) (Ext.refl _).drew (fun _ _ x _ => x) trivial ?_
    repeat (first | (refine wpY_move0 rfl rfl (by first | exact runs0 | exact runs1 rfl) Ext.refl rfl rfl rfl ?_; apply Exists.intro; refine ⟨?_, ?_⟩; · (go_simp; rfl)) | (refine wpY_move rfl rfl (by first | exact runs0 | exact runs1 rfl) Ext.refl rfl rfl rfl (fun _ _ _ h _ => h) ?_) | (refine wpY_val rfl rfl (by first | exact runs0 | exact runs1 rfl) Ext.refl rfl ?_; apply Exists.intro; refine ⟨?_, ?_⟩; · (intro a w' hR; (try (intro h1; try have e1 : _ = _ := h1)); (try (intro h2; try have e2 : _ = _ := h2)); (try (intro h3; try have e3 : _ = _ := h3)); go_simp; rfl)) | (refine wpY_skip rfl rfl (by first | exact .inl rfl | exact .inr rfl) ?_))
    refine wpY_val rfl rfl (by first | exact runs0 | exact runs1 rfl) Ext.refl rfl ?_; apply Exists.intro; refine ⟨?_, ?_⟩
    · intro a w' hR h1
      have e1 : _ = _ := h1
      have hl0 := hR.cell d0
      have hl1 := hR.cell g0
      go_simp
      rfl
    repeat (first | (refine wpY_move0 rfl rfl (by first | exact runs0 | exact runs1 rfl) Ext.refl rfl rfl rfl ?_; apply Exists.intro; refine ⟨?_, ?_⟩; · (go_simp; rfl)) | (refine wpY_move rfl rfl (by first | exact runs0 | exact runs1 rfl) Ext.refl rfl rfl rfl (fun _ _ _ h _ => h) ?_) | (refine wpY_val rfl rfl (by first | exact runs0 | exact runs1 rfl) Ext.refl rfl ?_; apply Exists.intro; refine ⟨?_, ?_⟩; · (intro a w' hR; (try (intro h1; try have e1 : _ = _ := h1)); (try (intro h2; try have e2 : _ = _ := h2)); (try (intro h3; try have e3 : _ = _ := h3)); go_simp; rfl)) | (refine wpY_skip rfl rfl (by first | exact .inl rfl | exact .inr rfl) ?_))
    refine wpY_val rfl rfl (by first | exact runs0 | exact runs1 rfl) Ext.refl rfl ?_; apply Exists.intro; refine ⟨?_, ?_⟩
    · intro a w' hR h1
      have e1 : _ = _ := h1
      have hl0 := hR.cell d1
      have hl1 := hR.cell g1
      go_simp
      rfl
    repeat (first | (refine wpY_move0 rfl rfl (by first | exact runs0 | exact runs1 rfl) Ext.refl rfl rfl rfl ?_; apply Exists.intro; refine ⟨?_, ?_⟩; · (go_simp; rfl)) | (refine wpY_move rfl rfl (by first | exact runs0 | exact runs1 rfl) Ext.refl rfl rfl rfl (fun _ _ _ h _ => h) ?_) | (refine wpY_val rfl rfl (by first | exact runs0 | exact runs1 rfl) Ext.refl rfl ?_; apply Exists.intro; refine ⟨?_, ?_⟩; · (intro a w' hR; (try (intro h1; try have e1 : _ = _ := h1)); (try (intro h2; try have e2 : _ = _ := h2)); (try (intro h3; try have e3 : _ = _ := h3)); go_simp; rfl)) | (refine wpY_skip rfl rfl (by first | exact .inl rfl | exact .inr rfl) ?_))
    refine wpY_val rfl rfl (by first | exact runs0 | exact runs1 rfl) Ext.refl rfl ?_; apply Exists.intro; refine ⟨?_, ?_⟩
    · intro a w' hR h1
      have e1 : _ = _ := h1
      have hl0 := hR.cell d2
      have hl1 := hR.cell g2
      go_simp
      rfl
    repeat (first | (refine wpY_move0 rfl rfl (by first | exact runs0 | exact runs1 rfl) Ext.refl rfl rfl rfl ?_; apply Exists.intro; refine ⟨?_, ?_⟩; · (go_simp; rfl)) | (refine wpY_move rfl rfl (by first | exact runs0 | exact runs1 rfl) Ext.refl rfl rfl rfl (fun _ _ _ h _ => h) ?_) | (refine wpY_val rfl rfl (by first | exact runs0 | exact runs1 rfl) Ext.refl rfl ?_; apply Exists.intro; refine ⟨?_, ?_⟩; · (intro a w' hR; (try (intro h1; try have e1 : _ = _ := h1)); (try (intro h2; try have e2 : _ = _ := h2)); (try (intro h3; try have e3 : _ = _ := h3)); go_simp; rfl)) | (refine wpY_skip rfl rfl (by first | exact .inl rfl | exact .inr rfl) ?_))
    refine wpY_val rfl rfl (by first | exact runs0 | exact runs1 rfl) Ext.refl rfl ?_; apply Exists.intro; refine ⟨?_, ?_⟩
    · intro a w' hR h1
      have e1 : _ = _ := h1
      have hl0 := hR.cell d3
      have hl1 := hR.cell g3
      go_simp
      rfl
    repeat (first | (refine wpY_move0 rfl rfl (by first | exact runs0 | exact runs1 rfl) Ext.refl rfl rfl rfl ?_; apply Exists.intro; refine ⟨?_, ?_⟩; · (go_simp; rfl)) | (refine wpY_move rfl rfl (by first | exact runs0 | exact runs1 rfl) Ext.refl rfl rfl rfl (fun _ _ _ h _ => h) ?_) | (refine wpY_val rfl rfl (by first | exact runs0 | exact runs1 rfl) Ext.refl rfl ?_; apply Exists.intro; refine ⟨?_, ?_⟩; · (intro a w' hR; (try (intro h1; try have e1 : _ = _ := h1)); (try (intro h2; try have e2 : _ = _ := h2)); (try (intro h3; try have e3 : _ = _ := h3)); go_simp; rfl)) | (refine wpY_skip rfl rfl (by first | exact .inl rfl | exact .inr rfl) ?_))
    refine wpY_val rfl rfl (by first | exact runs0 | exact runs1 rfl) Ext.refl rfl ?_; apply Exists.intro; refine ⟨?_, ?_⟩
    · intro a w' hR h1
      have e1 : _ = _ := h1
      have hl0 := hR.cell d5
      have hl1 := hR.cell g5
      go_simp
      rfl
    refine wpY_call (fun v _ => v = .agg #[.int .i64 2, .int .i64 6]) rfl rfl (by first | exact runs0 | exact runs1 rfl) rfl (by exact mono_eq) ?_ ?_
    · intro a w' hR  K hK
      go_simp
      refine (in_any 6 w').mono ?_
      rintro e w2 ⟨rfl, he⟩
      exact hK _ _ he rfl
    repeat (first | (refine wpY_move0 rfl rfl (by first | exact runs0 | exact runs1 rfl) Ext.refl rfl rfl rfl ?_; apply Exists.intro; refine ⟨?_, ?_⟩; · (go_simp; rfl)) | (refine wpY_move rfl rfl (by first | exact runs0 | exact runs1 rfl) Ext.refl rfl rfl rfl (fun _ _ _ h _ => h) ?_) | (refine wpY_val rfl rfl (by first | exact runs0 | exact runs1 rfl) Ext.refl rfl ?_; apply Exists.intro; refine ⟨?_, ?_⟩; · (intro a w' hR; (try (intro h1; try have e1 : _ = _ := h1)); (try (intro h2; try have e2 : _ = _ := h2)); (try (intro h3; try have e3 : _ = _ := h3)); go_simp; rfl)) | (refine wpY_skip rfl rfl (by first | exact .inl rfl | exact .inr rfl) ?_))
    refine wpY_val rfl rfl (by first | exact runs0 | exact runs1 rfl) Ext.refl rfl ?_; apply Exists.intro; refine ⟨?_, ?_⟩
    · intro a w' hR h1
      have e1 : _ = _ := h1
      have hl0 := hR.cell c0
      have hl1 := hR.cell c1
      go_simp
      rfl
    refine wpY_call (fun v _ => ∃ A c, v = .slice A 7 c) rfl rfl (by first | exact runs0 | exact runs1 rfl) rfl (by first | exact mono_eq | exact (fun _ _ _ h k => Rd.ext h k) | exact (fun _ _ _ h k => RB.ext h k) | exact (fun _ _ _ h k => OB.ext h k) | exact (fun _ _ _ h k => RB.extS h k) | exact (fun _ _ _ h k => Rd.ext h (GrownW.ext k)) | exact (fun _ _ _ h k => RP.ext h k) | exact (fun _ _ _ h k => OP.ext h k) | exact (fun _ _ _ h k => Rd.extV h k) | exact (fun _ _ _ h k => RB.extV h k) | exact (fun _ _ _ h k => E0.ext h k) | exact (fun _ _ _ h k => O0.ext h k) | exact (fun _ _ _ h k => RE.ext h k) | exact (fun _ _ _ h k => RE.extD h k) | exact (fun _ _ _ h _ => h) | exact (fun _ _ _ ⟨n, h1, h2⟩ k => ⟨n, h1, k.st _ _ h2⟩) | exact (fun _ _ _ h k => OE.ext h k)) ?_ ?_
    · intro a w' hR h1 K hK
      have e1 : _ = _ := h1
      go_simp
      refine (HIN.out _ w' (HU.out.ext hR)).mono ?_
      rintro e w2 ⟨v9, rfl, ho9, he⟩
      exact hK _ _ he (by obtain ⟨A9, c9, h9⟩ := ho9.form; rw [HNI.out] at h9; exact ⟨A9, c9, h9⟩)
    refine wpY_val rfl rfl (by first | exact runs0 | exact runs1 rfl) Ext.refl rfl ?_; apply Exists.intro; refine ⟨?_, ?_⟩
    · intro a w' hR h1
      obtain ⟨A9, c9, e1⟩ := h1
      have e1 : _ = _ := e1
      go_simp
      rfl
    repeat (first | (refine wpY_move0 rfl rfl (by first | exact runs0 | exact runs1 rfl) Ext.refl rfl rfl rfl ?_; apply Exists.intro; refine ⟨?_, ?_⟩; · (go_simp; rfl)) | (refine wpY_move rfl rfl (by first | exact runs0 | exact runs1 rfl) Ext.refl rfl rfl rfl (fun _ _ _ h _ => h) ?_) | (refine wpY_val rfl rfl (by first | exact runs0 | exact runs1 rfl) Ext.refl rfl ?_; apply Exists.intro; refine ⟨?_, ?_⟩; · (intro a w' hR; (try (intro h1; try have e1 : _ = _ := h1)); (try (intro h2; try have e2 : _ = _ := h2)); (try (intro h3; try have e3 : _ = _ := h3)); go_simp; rfl)) | (refine wpY_skip rfl rfl (by first | exact .inl rfl | exact .inr rfl) ?_))
    refine wpY_val rfl rfl (by first | exact runs0 | exact runs1 rfl) Ext.refl rfl ?_; apply Exists.intro; refine ⟨?_, ?_⟩
    · intro a w' hR h1
      have e1 : _ = _ := h1
      have hl0 := hR.cell c0
      have hl1 := hR.cell c1
      go_simp
      rfl
    refine wpY_call (fun v _ => v = .agg #[.int .i64 2, .int .i64 0]) rfl rfl (by first | exact runs0 | exact runs1 rfl) rfl (by exact mono_eq) ?_ ?_
    · intro a w' hR  K hK
      go_simp
      refine (in_any 0 w').mono ?_
      rintro e w2 ⟨rfl, he⟩
      exact hK _ _ he rfl
    refine wpY_call (fun v _ => ∃ A c, v = .slice A 2 c) rfl rfl (by first | exact runs0 | exact runs1 rfl) rfl (by first | exact mono_eq | exact (fun _ _ _ h k => Rd.ext h k) | exact (fun _ _ _ h k => RB.ext h k) | exact (fun _ _ _ h k => OB.ext h k) | exact (fun _ _ _ h k => RB.extS h k) | exact (fun _ _ _ h k => Rd.ext h (GrownW.ext k)) | exact (fun _ _ _ h k => RP.ext h k) | exact (fun _ _ _ h k => OP.ext h k) | exact (fun _ _ _ h k => Rd.extV h k) | exact (fun _ _ _ h k => RB.extV h k) | exact (fun _ _ _ h k => E0.ext h k) | exact (fun _ _ _ h k => O0.ext h k) | exact (fun _ _ _ h k => RE.ext h k) | exact (fun _ _ _ h k => RE.extD h k) | exact (fun _ _ _ h _ => h) | exact (fun _ _ _ ⟨n, h1, h2⟩ k => ⟨n, h1, k.st _ _ h2⟩) | exact (fun _ _ _ h k => OE.ext h k)) ?_ ?_
    · intro a w' hR h1 h2 K hK
      have e1 : _ = _ := h1
      have e2 : _ = _ := h2
      go_simp
      refine (HSO.out _ w' (HU.out.ext hR)).mono ?_
      rintro e w2 ⟨v9, rfl, ho9, he⟩
      exact hK _ _ he (by obtain ⟨A9, c9, h9⟩ := ho9.form; rw [HNS.out] at h9; exact ⟨A9, c9, h9⟩)
    refine wpY_val rfl rfl (by first | exact runs0 | exact runs1 rfl) Ext.refl rfl ?_; apply Exists.intro; refine ⟨?_, ?_⟩
    · intro a w' hR h1
      obtain ⟨A9, c9, e1⟩ := h1
      have e1 : _ = _ := e1
      go_simp
      rfl
    repeat (first | (refine wpY_move0 rfl rfl (by first | exact runs0 | exact runs1 rfl) Ext.refl rfl rfl rfl ?_; apply Exists.intro; refine ⟨?_, ?_⟩; · (go_simp; rfl)) | (refine wpY_move rfl rfl (by first | exact runs0 | exact runs1 rfl) Ext.refl rfl rfl rfl (fun _ _ _ h _ => h) ?_) | (refine wpY_val rfl rfl (by first | exact runs0 | exact runs1 rfl) Ext.refl rfl ?_; apply Exists.intro; refine ⟨?_, ?_⟩; · (intro a w' hR; (try (intro h1; try have e1 : _ = _ := h1)); (try (intro h2; try have e2 : _ = _ := h2)); (try (intro h3; try have e3 : _ = _ := h3)); go_simp; rfl)) | (refine wpY_skip rfl rfl (by first | exact .inl rfl | exact .inr rfl) ?_))
    refine wpY_val rfl rfl (by first | exact runs0 | exact runs1 rfl) Ext.refl rfl ?_; apply Exists.intro; refine ⟨?_, ?_⟩
    · intro a w' hR h1
      have e1 : _ = _ := h1
      have hl0 := hR.cell c0
      have hl1 := hR.cell c1
      go_simp
      rfl
    refine wpY_call (fun v _ => ∃ A c, v = .slice A 13 c) rfl rfl (by first | exact runs0 | exact runs1 rfl) rfl (by first | exact mono_eq | exact (fun _ _ _ h k => Rd.ext h k) | exact (fun _ _ _ h k => RB.ext h k) | exact (fun _ _ _ h k => OB.ext h k) | exact (fun _ _ _ h k => RB.extS h k) | exact (fun _ _ _ h k => Rd.ext h (GrownW.ext k)) | exact (fun _ _ _ h k => RP.ext h k) | exact (fun _ _ _ h k => OP.ext h k) | exact (fun _ _ _ h k => Rd.extV h k) | exact (fun _ _ _ h k => RB.extV h k) | exact (fun _ _ _ h k => E0.ext h k) | exact (fun _ _ _ h k => O0.ext h k) | exact (fun _ _ _ h k => RE.ext h k) | exact (fun _ _ _ h k => RE.extD h k) | exact (fun _ _ _ h _ => h) | exact (fun _ _ _ ⟨n, h1, h2⟩ k => ⟨n, h1, k.st _ _ h2⟩) | exact (fun _ _ _ h k => OE.ext h k)) ?_ ?_
    · intro a w' hR h1 K hK
      have e1 : _ = _ := h1
      go_simp
      refine (HAR.out _ w' (HU.out.ext hR)).mono ?_
      rintro e w2 ⟨v9, rfl, ho9, he⟩
      exact hK _ _ he (by obtain ⟨A9, c9, h9⟩ := ho9.re.form; rw [HNA.out] at h9; exact ⟨A9, c9, h9⟩)
    refine wpY_val rfl rfl (by first | exact runs0 | exact runs1 rfl) Ext.refl rfl ?_; apply Exists.intro; refine ⟨?_, ?_⟩
    · intro a w' hR h1
      obtain ⟨A9, c9, e1⟩ := h1
      have e1 : _ = _ := e1
      go_simp
      rfl
    repeat (first | (refine wpY_move0 rfl rfl (by first | exact runs0 | exact runs1 rfl) Ext.refl rfl rfl rfl ?_; apply Exists.intro; refine ⟨?_, ?_⟩; · (go_simp; rfl)) | (refine wpY_move rfl rfl (by first | exact runs0 | exact runs1 rfl) Ext.refl rfl rfl rfl (fun _ _ _ h _ => h) ?_) | (refine wpY_val rfl rfl (by first | exact runs0 | exact runs1 rfl) Ext.refl rfl ?_; apply Exists.intro; refine ⟨?_, ?_⟩; · (intro a w' hR; (try (intro h1; try have e1 : _ = _ := h1)); (try (intro h2; try have e2 : _ = _ := h2)); (try (intro h3; try have e3 : _ = _ := h3)); go_simp; rfl)) | (refine wpY_skip rfl rfl (by first | exact .inl rfl | exact .inr rfl) ?_))
    refine wpY_val rfl rfl (by first | exact runs0 | exact runs1 rfl) Ext.refl rfl ?_; apply Exists.intro; refine ⟨?_, ?_⟩
    · intro a w' hR h1
      have e1 : _ = _ := h1
      have hl0 := hR.cell c0
      have hl1 := hR.cell c1
      go_simp
      rfl
    refine wpY_call (fun v _ => v = .agg #[.int .i64 2, .int .i64 6]) rfl rfl (by first | exact runs0 | exact runs1 rfl) rfl (by exact mono_eq) ?_ ?_
    · intro a w' hR  K hK
      go_simp
      refine (in_any 6 w').mono ?_
      rintro e w2 ⟨rfl, he⟩
      exact hK _ _ he rfl
    repeat (first | (refine wpY_move0 rfl rfl (by first | exact runs0 | exact runs1 rfl) Ext.refl rfl rfl rfl ?_; apply Exists.intro; refine ⟨?_, ?_⟩; · (go_simp; rfl)) | (refine wpY_move rfl rfl (by first | exact runs0 | exact runs1 rfl) Ext.refl rfl rfl rfl (fun _ _ _ h _ => h) ?_) | (refine wpY_val rfl rfl (by first | exact runs0 | exact runs1 rfl) Ext.refl rfl ?_; apply Exists.intro; refine ⟨?_, ?_⟩; · (intro a w' hR; (try (intro h1; try have e1 : _ = _ := h1)); (try (intro h2; try have e2 : _ = _ := h2)); (try (intro h3; try have e3 : _ = _ := h3)); go_simp; rfl)) | (refine wpY_skip rfl rfl (by first | exact .inl rfl | exact .inr rfl) ?_))
    refine wpY_call (fun v _ => v = .agg #[.int .i64 2, .int .i64 0]) rfl rfl (by first | exact runs0 | exact runs1 rfl) rfl (by exact mono_eq) ?_ ?_
    · intro a w' hR  K hK
      go_simp
      refine (in_any 0 w').mono ?_
      rintro e w2 ⟨rfl, he⟩
      exact hK _ _ he rfl
    repeat (first | (refine wpY_move0 rfl rfl (by first | exact runs0 | exact runs1 rfl) Ext.refl rfl rfl rfl ?_; apply Exists.intro; refine ⟨?_, ?_⟩; · (go_simp; rfl)) | (refine wpY_move rfl rfl (by first | exact runs0 | exact runs1 rfl) Ext.refl rfl rfl rfl (fun _ _ _ h _ => h) ?_) | (refine wpY_val rfl rfl (by first | exact runs0 | exact runs1 rfl) Ext.refl rfl ?_; apply Exists.intro; refine ⟨?_, ?_⟩; · (intro a w' hR; (try (intro h1; try have e1 : _ = _ := h1)); (try (intro h2; try have e2 : _ = _ := h2)); (try (intro h3; try have e3 : _ = _ := h3)); go_simp; rfl)) | (refine wpY_skip rfl rfl (by first | exact .inl rfl | exact .inr rfl) ?_))
    refine wpY_call (fun v _ => v = .bool true) rfl rfl (by first | exact runs0 | exact runs1 rfl) rfl (by exact mono_eq) ?_ ?_
    · intro a w' hR h1 h2 h3 h4 h5 K hK
      have e1 : _ = _ := h1
      have e2 : _ = _ := h2
      have e3 : _ = _ := h3
      have e4 : _ = _ := h4
      have e5 : _ = _ := h5
      go_simp
      refine (HL1.out _ w' (HU.out.ext hR)).mono ?_
      rintro e w2 ⟨rfl, he⟩
      exact hK _ _ he rfl
    repeat (first | (refine wpY_move0 rfl rfl (by first | exact runs0 | exact runs1 rfl) Ext.refl rfl rfl rfl ?_; apply Exists.intro; refine ⟨?_, ?_⟩; · (go_simp; rfl)) | (refine wpY_move rfl rfl (by first | exact runs0 | exact runs1 rfl) Ext.refl rfl rfl rfl (fun _ _ _ h _ => h) ?_) | (refine wpY_val rfl rfl (by first | exact runs0 | exact runs1 rfl) Ext.refl rfl ?_; apply Exists.intro; refine ⟨?_, ?_⟩; · (intro a w' hR; (try (intro h1; try have e1 : _ = _ := h1)); (try (intro h2; try have e2 : _ = _ := h2)); (try (intro h3; try have e3 : _ = _ := h3)); go_simp; rfl)) | (refine wpY_skip rfl rfl (by first | exact .inl rfl | exact .inr rfl) ?_))
    refine wpY_val rfl rfl (by first | exact runs0 | exact runs1 rfl) Ext.refl rfl ?_; apply Exists.intro; refine ⟨?_, ?_⟩
    · intro a w' hR h1
      have e1 : _ = _ := h1
      have hl0 := hR.cell c0
      have hl1 := hR.cell c1
      go_simp
      rfl
    refine wpY_call (fun v _ => v = .agg #[.int .i64 2, .int .i64 6]) rfl rfl (by first | exact runs0 | exact runs1 rfl) rfl (by exact mono_eq) ?_ ?_
    · intro a w' hR  K hK
      go_simp
      refine (in_any 6 w').mono ?_
      rintro e w2 ⟨rfl, he⟩
      exact hK _ _ he rfl
    repeat (first | (refine wpY_move0 rfl rfl (by first | exact runs0 | exact runs1 rfl) Ext.refl rfl rfl rfl ?_; apply Exists.intro; refine ⟨?_, ?_⟩; · (go_simp; rfl)) | (refine wpY_move rfl rfl (by first | exact runs0 | exact runs1 rfl) Ext.refl rfl rfl rfl (fun _ _ _ h _ => h) ?_) | (refine wpY_val rfl rfl (by first | exact runs0 | exact runs1 rfl) Ext.refl rfl ?_; apply Exists.intro; refine ⟨?_, ?_⟩; · (intro a w' hR; (try (intro h1; try have e1 : _ = _ := h1)); (try (intro h2; try have e2 : _ = _ := h2)); (try (intro h3; try have e3 : _ = _ := h3)); go_simp; rfl)) | (refine wpY_skip rfl rfl (by first | exact .inl rfl | exact .inr rfl) ?_))
    refine wpY_call (fun v _ => v = .agg #[.int .i64 2, .int .i64 0]) rfl rfl (by first | exact runs0 | exact runs1 rfl) rfl (by exact mono_eq) ?_ ?_
    · intro a w' hR  K hK
      go_simp
      refine (in_any 0 w').mono ?_
      rintro e w2 ⟨rfl, he⟩
      exact hK _ _ he rfl
    repeat (first | (refine wpY_move0 rfl rfl (by first | exact runs0 | exact runs1 rfl) Ext.refl rfl rfl rfl ?_; apply Exists.intro; refine ⟨?_, ?_⟩; · (go_simp; rfl)) | (refine wpY_move rfl rfl (by first | exact runs0 | exact runs1 rfl) Ext.refl rfl rfl rfl (fun _ _ _ h _ => h) ?_) | (refine wpY_val rfl rfl (by first | exact runs0 | exact runs1 rfl) Ext.refl rfl ?_; apply Exists.intro; refine ⟨?_, ?_⟩; · (intro a w' hR; (try (intro h1; try have e1 : _ = _ := h1)); (try (intro h2; try have e2 : _ = _ := h2)); (try (intro h3; try have e3 : _ = _ := h3)); go_simp; rfl)) | (refine wpY_skip rfl rfl (by first | exact .inl rfl | exact .inr rfl) ?_))
    refine wpY_call (fun v _ => v = .bool false) rfl rfl (by first | exact runs0 | exact runs1 rfl) rfl (by exact mono_eq) ?_ ?_
    · intro a w' hR h1 h2 h3 h4 h5 K hK
      have e1 : _ = _ := h1
      have e2 : _ = _ := h2
      have e3 : _ = _ := h3
      have e4 : _ = _ := h4
      have e5 : _ = _ := h5
      go_simp
      refine (HL2.out _ w' (HU.out.ext hR)).mono ?_
      rintro e w2 ⟨rfl, he⟩
      exact hK _ _ he rfl
    refine wpY_val rfl rfl (by first | exact runs0 | exact runs1 rfl) Ext.refl rfl ?_; apply Exists.intro; refine ⟨?_, ?_⟩
    · intro a w' hR h1
      have e1 : _ = _ := h1
      go_simp
      rfl
    (first | (refine wpY_move0 rfl rfl (by first | exact runs0 | exact runs1 rfl) Ext.refl rfl rfl rfl ?_; apply Exists.intro; refine ⟨?_, ?_⟩; · (go_simp; rfl)) | (refine wpY_move rfl rfl (by first | exact runs0 | exact runs1 rfl) Ext.refl rfl rfl rfl (fun _ _ _ h _ => h) ?_) | (refine wpY_val rfl rfl (by first | exact runs0 | exact runs1 rfl) Ext.refl rfl ?_; apply Exists.intro; refine ⟨?_, ?_⟩; · (intro a w' hR; (try (intro h1; try have e1 : _ = _ := h1)); (try (intro h2; try have e2 : _ = _ := h2)); (try (intro h3; try have e3 : _ = _ := h3)); go_simp; rfl)) | (refine wpY_skip rfl rfl (by first | exact .inl rfl | exact .inr rfl) ?_))
    refine wpY_val rfl rfl (by first | exact runs0 | exact runs1 rfl) Ext.refl rfl ?_; apply Exists.intro; refine ⟨?_, ?_⟩
    · intro a w' hR h1
      have e1 : _ = _ := h1
      go_simp
      rfl
    refine wpY_done ?_
    intro wz hz hS
    iterate 44 (rintro _ rfl)
    iterate 1 (intro _ hz; clear hz)
    iterate 6 (rintro _ rfl)
    iterate 1 (intro _ hz; clear hz)
    iterate 5 (rintro _ rfl)
    iterate 1 (intro _ hz; clear hz)
    iterate 21 (rintro _ rfl)
    dsimp only [FinV]
    go_simp
    have hz : Ext w9 wz := hz
    go_wp2
    go_ret
    exact ⟨rfl, HX.out.trans hz⟩
end Go.Proofs.Ytcacicgkebcdkaa
