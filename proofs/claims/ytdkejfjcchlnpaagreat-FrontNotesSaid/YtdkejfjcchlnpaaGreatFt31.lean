/-
  Cnt2, Cnt3, Cnt4, FrMath, Box, MomSort, packed: what the claim needs of them.
-/
import Derived.Test.YtdkejfjcchlnpaaGreatFt30
set_option maxHeartbeats 40000000
open Go.Lib (hid)
set_option linter.unusedSimpArgs false
set_option linter.unusedVariables false
set_option maxRecDepth 100000
namespace Go.Proofs.YtdkejfjcchlnpaaGreat.Ct
open Go.RowKit Go.Ox Mo
theorem b5I (w : World) (a b c d : Value) : ((w.alloc (.cells #[a, b] 27)).alloc (.cells #[c, d] 29)).cell? ⟨w.heap.size, 0, none⟩ = some a ∧ ((w.alloc (.cells #[a, b] 27)).alloc (.cells #[c, d] 29)).cell? ⟨w.heap.size, 1, none⟩ = some b ∧
 ((w.alloc (.cells #[a, b] 27)).alloc (.cells #[c, d] 29)).cell? ⟨w.heap.size + 1, 0, none⟩ = some c ∧ ((w.alloc (.cells #[a, b] 27)).alloc (.cells #[c, d] 29)).cell? ⟨w.heap.size + 1, 1, none⟩ = some d :=
 a9q w _ _ a b c d
theorem CM.put {w : World} {g b : Nat} {L : List Cnt.S} (h : CM w g b L) (k : Cnt.K) (n : Int) :
 ∃ w' l', (Instr.mapUpdate 88 (.map (some b)) (kV k) (vI n)).run Tryz.prog w = .ok () w' ∧ ExtM b w w' ∧ a2L kV vI w' b l' ∧ ∀ x, x ∈ l' ↔ (x ∈ L ∧ x.1 ≠ k) ∨ x = (k, n) := by
 obtain ⟨l, h1, h2⟩ := h.map;obtain ⟨w', l', h3, h4, h5, h6⟩ := h1.a8y keyK Tryz.underlying88 k n;exact ⟨w', l', h3, h5, h4, fun x => by rw [h6, h2]⟩
theorem CM.done {w w' : World} {g b : Nat} {L : List Cnt.S} (h : CM w g b L) (hx : ExtM b w w') {l' : List Cnt.S} (hm : a2L kV vI w' b l') {k : Cnt.K} {n : Int} (h0 : 0 <= n) (h1 : n <= 1073741824)
 (hmem : ∀ x, x ∈ l' ↔ (x ∈ L ∧ x.1 ≠ k) ∨ (n ≠ 0 ∧ x = (k, n))) : CM w' g b (Cnt.b14 L (k, n)) :=
 ⟨h.box.a1c hx h.ne, h.ne, ⟨l', hm, fun x => by rw [hmem, (Cnt.a8i h.good.asc (k, n)).2 x]⟩, Cnt.a8j h.good _ h0 h1⟩
theorem b6S (w : World) (g b : Nat) (L : List Cnt.S) (h : CM w g b L) (k : Cnt.K) (n : Int) (hk : Mom.ok k.2 = false) :
 Calls Tryz.prog 14 #[.pointer (some ⟨g, 0, none⟩), pV2 k.1, pV2 k.2, .int .i64 n] w fun e w' => e = .returned (.int .i64 40) ∧ Ext w w' := by
 obtain ⟨⟨k1, k2⟩, k3, k4⟩ := k;dsimp only at *;obtain ⟨c1, c2, c3, c4⟩ := b5I w (.int .i64 k1) (.int .i64 k2) (.int .i64 k3) (.int .i64 k4);have hx : Ext w ((w.alloc (.cells #[.int .i64 k1, .int .i64 k2] 27)).alloc (.cells #[.int .i64 k3, .int .i64 k4] 29)) := ((Ext.refl _).alloc _).alloc _;have HX := hid hx;have HC := hid (h.ext hx);have HM := hid (fun w h => a3V w g b L h)
 have HK := hid (fun w => a0E (k3, k4) w)
 rw [hk] at HK;clear h hx hk
 go_enter Tryz.func14, Tryz.ntmps14
 go_wp2_with fail
 refine (HM.o _ HC.o).mono ?_;rintro e w1 ⟨rfl, rfl⟩
 go_wp2_with fail
 refine (HK.o _).mono ?_;rintro e w2 ⟨rfl, he2⟩
 go_wp2
 go_ret
 exact ⟨rfl, HX.o.trans he2⟩
theorem b6T (w : World) (g b : Nat) (L : List Cnt.S) (h : CM w g b L) (k : Cnt.K) (n : Int) (hk : Mom.ok k.2 = true) (hr : n < - Cnt.was L k ∨ 1073741824 - Cnt.was L k < n) :
 Calls Tryz.prog 14 #[.pointer (some ⟨g, 0, none⟩), pV2 k.1, pV2 k.2, .int .i64 n] w fun e w' => e = .returned (.int .i64 210) ∧ Ext w w' := by
 obtain ⟨⟨k1, k2⟩, k3, k4⟩ := k;dsimp only at *;obtain ⟨c1, c2, c3, c4⟩ := b5I w (.int .i64 k1) (.int .i64 k2) (.int .i64 k3) (.int .i64 k4);have hx : Ext w ((w.alloc (.cells #[.int .i64 k1, .int .i64 k2] 27)).alloc (.cells #[.int .i64 k3, .int .i64 k4] 29)) := ((Ext.refl _).alloc _).alloc _;have HX := hid hx;have HC := hid (h.ext hx);have HM := hid (fun w h => a3V w g b L h)
 have HK := hid (fun w => a0E (k3, k4) w)
 have HW := hid (fun (w : World) (h : CM w g b L) => h.look ((k1, k2), k3, k4))
 obtain ⟨z0, z1⟩ := Cnt.a2o h.good ((k1, k2), k3, k4);rw [hk] at HK;clear hx hk;generalize hz : Cnt.was L ((k1, k2), k3, k4) = z at *;clear h
 go_enter Tryz.func14, Tryz.ntmps14
 go_wp2_with fail
 refine (HM.o _ HC.o).mono ?_;rintro e w1 ⟨rfl, rfl⟩
 go_wp2_with fail
 refine (HK.o _).mono ?_;rintro e w2 ⟨rfl, he2⟩;have HX2 := hid (HX.o.trans he2);have HC2 := hid (HC.o.ext he2);have c1 := he2.cell c1;have c2 := he2.cell c2;have c3 := he2.cell c3;have c4 := he2.cell c4;clear he2 HX HC
 go_wp2
 have hn := Blk.new w2 92 #[.int .i64 k1, .int .i64 k2, .int .i64 k3, .int .i64 k4];have hx3 : Ext w2 (w2.alloc (.cells #[.int .i64 k1, .int .i64 k2, .int .i64 k3, .int .i64 k4] 92)) := (Ext.refl _).alloc _;have HX3 := hid (HX2.o.trans hx3);have HC3 := hid (HC2.o.ext hx3);clear c1 c2 c3 c4 HX2 hx3;generalize hw3 : w2.alloc (.cells #[.int .i64 k1, .int .i64 k2, .int .i64 k3, .int .i64 k4] 92) = w3 at *;have c0 : w3.cell? ⟨g, 0, none⟩ = some (.map (some b)) := HC3.o.box.cell 0;have c1 := hn.c0;have c2 := hn.c1;have c3 := hn.c2;have c4 := hn.c3;clear hn;generalize w2.heap.size = nk at *;refine a0z (by kernel_rfl) (by rfl) (by rfl) (by kernel_rfl) ?_
 refine ma ?_;refine ml5 c0 c1 c2 c3 c4 ?_;refine ml5 c0 c1 c2 c3 c4 ?_
 (first | (refine a2r Ext.refl rfl ?_) | (refine a2s Ext.refl rfl rfl ?_)); apply Exists.intro; refine ⟨?_, ?_⟩
 . intro a w' hR h1 h2
   have e1 : _ = _ := h1;have e2 : _ = _ := h2;have hl := HW.o w' (HC3.o.ext hR);go_simp;rfl
 refine ma ?_;refine a1T ?_;intro w4 hx4
 iterate 7 (rintro _ rfl)
 dsimp only [a0y];go_simp;have HX4 := hid (HX3.o.trans hx4);have HC4 := hid (HC3.o.ext hx4);have c0 := hx4.cell c0;have c1 := hx4.cell c1;have c2 := hx4.cell c2;have c3 := hx4.cell c3;have c4 := hx4.cell c4;clear hx4 HX3 HC3
 rcases hr with hr | hr
 . go_wp2
   go_ret
   exact ⟨rfl, HX4.o⟩
 have hr2 : ¬ n < -z := by omega
 go_wp2
 go_ret
 exact ⟨rfl, HX4.o⟩
theorem add_ok (w : World) (g b : Nat) (L : List Cnt.S) (h : CM w g b L) (k : Cnt.K) (n : Int) (hk : Mom.ok k.2 = true) (hr : - Cnt.was L k <= n) (hr2 : n <= 1073741824 - Cnt.was L k) (hz0 : Cnt.was L k + n ≠ 0) :
 Calls Tryz.prog 14 #[.pointer (some ⟨g, 0, none⟩), pV2 k.1, pV2 k.2, .int .i64 n] w fun e w' => e = .returned (.int .i64 0) ∧ CM w' g b (Cnt.b14 L (k, Cnt.was L k + n)) ∧ ∃ w1, Ext w w1 ∧ ExtM b w1 w' := by
 obtain ⟨⟨k1, k2⟩, k3, k4⟩ := k;dsimp only at *;obtain ⟨c1, c2, c3, c4⟩ := b5I w (.int .i64 k1) (.int .i64 k2) (.int .i64 k3) (.int .i64 k4);have hx : Ext w ((w.alloc (.cells #[.int .i64 k1, .int .i64 k2] 27)).alloc (.cells #[.int .i64 k3, .int .i64 k4] 29)) := ((Ext.refl _).alloc _).alloc _;have HX := hid hx;have HC := hid (h.ext hx);have HM := hid (fun w h => a3V w g b L h)
 have HK := hid (fun w => a0E (k3, k4) w)
 have HW := hid (fun (w : World) (h : CM w g b L) => h.look ((k1, k2), k3, k4))
 obtain ⟨z0, z1⟩ := Cnt.a2o h.good ((k1, k2), k3, k4);rw [hk] at HK;clear hx hk;generalize hz : Cnt.was L ((k1, k2), k3, k4) = z at *;have HDN := hid (fun (w w' : World) (h : CM w g b L) (hx : ExtM b w w') (l' : List Cnt.S) (hm : a2L kV vI w' b l') (hmem : ∀ x, x ∈ l' ↔ (x ∈ L ∧ x.1 ≠ ((k1, k2), k3, k4)) ∨ (z + n ≠ 0 ∧ x = (((k1, k2), k3, k4), z + n))) => h.done hx hm (by omega) (by omega) hmem)
 clear h
 go_enter Tryz.func14, Tryz.ntmps14
 go_wp2_with fail
 refine (HM.o _ HC.o).mono ?_;rintro e w1 ⟨rfl, rfl⟩
 go_wp2_with fail
 refine (HK.o _).mono ?_;rintro e w2 ⟨rfl, he2⟩;have HX2 := hid (HX.o.trans he2);have HC2 := hid (HC.o.ext he2);have c1 := he2.cell c1;have c2 := he2.cell c2;have c3 := he2.cell c3;have c4 := he2.cell c4;clear he2 HX HC
 go_wp2
 have hn := Blk.new w2 92 #[.int .i64 k1, .int .i64 k2, .int .i64 k3, .int .i64 k4];have hx3 : Ext w2 (w2.alloc (.cells #[.int .i64 k1, .int .i64 k2, .int .i64 k3, .int .i64 k4] 92)) := (Ext.refl _).alloc _;have HX3 := hid (HX2.o.trans hx3);have HC3 := hid (HC2.o.ext hx3);clear c1 c2 c3 c4 HX2 hx3;generalize hw3 : w2.alloc (.cells #[.int .i64 k1, .int .i64 k2, .int .i64 k3, .int .i64 k4] 92) = w3 at *;have c0 : w3.cell? ⟨g, 0, none⟩ = some (.map (some b)) := HC3.o.box.cell 0;have c1 := hn.c0;have c2 := hn.c1;have c3 := hn.c2;have c4 := hn.c3;clear hn;generalize w2.heap.size = nk at *;refine a0z (by kernel_rfl) (by rfl) (by rfl) (by kernel_rfl) ?_
 refine ma ?_;refine ml5 c0 c1 c2 c3 c4 ?_;refine ml5 c0 c1 c2 c3 c4 ?_
 (first | (refine a2r Ext.refl rfl ?_) | (refine a2s Ext.refl rfl rfl ?_)); apply Exists.intro; refine ⟨?_, ?_⟩
 . intro a w' hR h1 h2
   have e1 : _ = _ := h1;have e2 : _ = _ := h2;have hl := HW.o w' (HC3.o.ext hR);go_simp;rfl
 refine ma ?_;refine a1T ?_;intro w4 hx4
 iterate 7 (rintro _ rfl)
 dsimp only [a0y];go_simp;have HX4 := hid (HX3.o.trans hx4);have HC4 := hid (HC3.o.ext hx4);have c0 := hx4.cell c0;have c1 := hx4.cell c1;have c2 := hx4.cell c2;have c3 := hx4.cell c3;have c4 := hx4.cell c4;clear hx4 HX3 HC3;have g1 : ¬ n < -z := by omega
 have g2 : ¬ 1073741824 - z < n := by omega
 have g3 : (z + n == 0) = false := by simpa using hz0
 go_wp2
 refine a0c 8 [] [] Ext Ext (fun _ => True) (by kernel_rfl) (by kernel_rfl) (by kernel_rfl) (by kernel_rfl) (by kernel_rfl) (by kernel_rfl) (by kernel_rfl) (by rfl) (by rfl) (by kernel_rfl) (by kernel_rfl) (by kernel_rfl) (fun _ _ _ x y => x.trans y) Ext.refl (fun _ _ x => x) (Ext.refl _).drew (fun _ _ x _ => x) trivial ?_
 refine ya ?_;refine yl5 c0 c1 c2 c3 c4 ?_;refine yl5 c0 c1 c2 c3 c4 ?_;refine ya ?_;refine a01 ?_;intro w5 hx5 hS5
 iterate 8 (rintro _ rfl)
 dsimp only [a0y];go_simp;have HX5 := hid (HX4.o.trans hx5);have HC5 := hid (HC4.o.ext hx5);have c0 := hx5.cell c0;have c1 := hx5.cell c1;have c2 := hx5.cell c2;have c3 := hx5.cell c3;have c4 := hx5.cell c4;clear hx5 HX4 HC4 hS5;obtain ⟨w6, l6, hup, hx6, hm6, hmem6⟩ := HC5.o.put ((k1, k2), k3, k4) (z + n);dsimp only [kV, vI] at hup;have HM6 := hid hm6;have HE6 := hid hmem6;have HX6 := hid hx6;have c0 := hx6.cells _ _ c0;have c1 := hx6.cells _ _ c1;have c2 := hx6.cells _ _ c2;have c3 := hx6.cells _ _ c3;have c4 := hx6.cells _ _ c4;clear hx6 hm6 hmem6;simp only [a0n, List.drop_succ_cons, List.drop_zero]
 go_wp2
 rw [hup];simp only [Result.andThen];rw [Oper.upon_skip];clear hup
 go_wp2
 go_ret
 exact ⟨rfl, HDN.o _ _ HC5.o HX6.o _ HM6.o (fun x => by rw [HE6.o]; simp [hz0]), w5, HX5.o, HX6.o⟩
theorem add_zero (w : World) (g b : Nat) (L : List Cnt.S) (h : CM w g b L) (k : Cnt.K) (n : Int) (hk : Mom.ok k.2 = true) (hr : - Cnt.was L k <= n) (hr2 : n <= 1073741824 - Cnt.was L k) (hz0 : Cnt.was L k + n = 0) :
 Calls Tryz.prog 14 #[.pointer (some ⟨g, 0, none⟩), pV2 k.1, pV2 k.2, .int .i64 n] w fun e w' => e = .returned (.int .i64 0) ∧ CM w' g b (Cnt.b14 L (k, Cnt.was L k + n)) ∧ ∃ w1, Ext w w1 ∧ ExtM b w1 w' := by
 obtain ⟨⟨k1, k2⟩, k3, k4⟩ := k;dsimp only at *;obtain ⟨c1, c2, c3, c4⟩ := b5I w (.int .i64 k1) (.int .i64 k2) (.int .i64 k3) (.int .i64 k4);have hx : Ext w ((w.alloc (.cells #[.int .i64 k1, .int .i64 k2] 27)).alloc (.cells #[.int .i64 k3, .int .i64 k4] 29)) := ((Ext.refl _).alloc _).alloc _;have HX := hid hx;have HC := hid (h.ext hx);have HM := hid (fun w h => a3V w g b L h)
 have HK := hid (fun w => a0E (k3, k4) w)
 have HW := hid (fun (w : World) (h : CM w g b L) => h.look ((k1, k2), k3, k4))
 obtain ⟨z0, z1⟩ := Cnt.a2o h.good ((k1, k2), k3, k4);rw [hk] at HK;clear hx hk;generalize hz : Cnt.was L ((k1, k2), k3, k4) = z at *;have HDN := hid (fun (w w' : World) (h : CM w g b L) (hx : ExtM b w w') (l' : List Cnt.S) (hm : a2L kV vI w' b l') (hmem : ∀ x, x ∈ l' ↔ (x ∈ L ∧ x.1 ≠ ((k1, k2), k3, k4)) ∨ (z + n ≠ 0 ∧ x = (((k1, k2), k3, k4), z + n))) => h.done hx hm (by omega) (by omega) hmem)
 clear h
 go_enter Tryz.func14, Tryz.ntmps14
 go_wp2_with fail
 refine (HM.o _ HC.o).mono ?_;rintro e w1 ⟨rfl, rfl⟩
 go_wp2_with fail
 refine (HK.o _).mono ?_;rintro e w2 ⟨rfl, he2⟩;have HX2 := hid (HX.o.trans he2);have HC2 := hid (HC.o.ext he2);have c1 := he2.cell c1;have c2 := he2.cell c2;have c3 := he2.cell c3;have c4 := he2.cell c4;clear he2 HX HC
 go_wp2
 have hn := Blk.new w2 92 #[.int .i64 k1, .int .i64 k2, .int .i64 k3, .int .i64 k4];have hx3 : Ext w2 (w2.alloc (.cells #[.int .i64 k1, .int .i64 k2, .int .i64 k3, .int .i64 k4] 92)) := (Ext.refl _).alloc _;have HX3 := hid (HX2.o.trans hx3);have HC3 := hid (HC2.o.ext hx3);clear c1 c2 c3 c4 HX2 hx3;generalize hw3 : w2.alloc (.cells #[.int .i64 k1, .int .i64 k2, .int .i64 k3, .int .i64 k4] 92) = w3 at *;have c0 : w3.cell? ⟨g, 0, none⟩ = some (.map (some b)) := HC3.o.box.cell 0;have c1 := hn.c0;have c2 := hn.c1;have c3 := hn.c2;have c4 := hn.c3;clear hn;generalize w2.heap.size = nk at *;refine a0z (by kernel_rfl) (by rfl) (by rfl) (by kernel_rfl) ?_
 refine ma ?_;refine ml5 c0 c1 c2 c3 c4 ?_;refine ml5 c0 c1 c2 c3 c4 ?_
 (first | (refine a2r Ext.refl rfl ?_) | (refine a2s Ext.refl rfl rfl ?_)); apply Exists.intro; refine ⟨?_, ?_⟩
 . intro a w' hR h1 h2
   have e1 : _ = _ := h1;have e2 : _ = _ := h2;have hl := HW.o w' (HC3.o.ext hR);go_simp;rfl
 refine ma ?_;refine a1T ?_;intro w4 hx4
 iterate 7 (rintro _ rfl)
 dsimp only [a0y];go_simp;have HX4 := hid (HX3.o.trans hx4);have HC4 := hid (HC3.o.ext hx4);have c0 := hx4.cell c0;have c1 := hx4.cell c1;have c2 := hx4.cell c2;have c3 := hx4.cell c3;have c4 := hx4.cell c4;clear hx4 HX3 HC3;have g1 : ¬ n < -z := by omega
 have g2 : ¬ 1073741824 - z < n := by omega
 have g3 : (z + n == 0) = true := by simpa using hz0
 go_wp2
 refine a0c 8 [] [] Ext Ext (fun _ => True) (by kernel_rfl) (by kernel_rfl) (by kernel_rfl) (by kernel_rfl) (by kernel_rfl) (by kernel_rfl) (by kernel_rfl) (by rfl) (by rfl) (by kernel_rfl) (by kernel_rfl) (by kernel_rfl) (fun _ _ _ x y => x.trans y) Ext.refl (fun _ _ x => x) (Ext.refl _).drew (fun _ _ x _ => x) trivial ?_
 refine ya ?_;refine yl5 c0 c1 c2 c3 c4 ?_;refine yl5 c0 c1 c2 c3 c4 ?_;refine ya ?_;refine a01 ?_;intro w5 hx5 hS5
 iterate 8 (rintro _ rfl)
 dsimp only [a0y];go_simp;have HX5 := hid (HX4.o.trans hx5);have HC5 := hid (HC4.o.ext hx5);have c0 := hx5.cell c0;have c1 := hx5.cell c1;have c2 := hx5.cell c2;have c3 := hx5.cell c3;have c4 := hx5.cell c4;clear hx5 HX4 HC4 hS5;obtain ⟨w6, l6, hup, hx6, hm6, hmem6⟩ := HC5.o.put ((k1, k2), k3, k4) (z + n);dsimp only [kV, vI] at hup;rw [hz0] at hup;have HM6 := hid hm6;have HE6 := hid hmem6;have HX6 := hid hx6;have c0 := hx6.cells _ _ c0;have c1 := hx6.cells _ _ c1;have c2 := hx6.cells _ _ c2;have c3 := hx6.cells _ _ c3;have c4 := hx6.cells _ _ c4;clear hx6 hm6 hmem6;simp only [a0n, List.drop_succ_cons, List.drop_zero]
 go_wp2
 rw [hup];simp only [Result.andThen];rw [Oper.upon_skip];clear hup
 go_wp2
 refine a0c 5 [] [] Ext Ext (fun _ => True) (by kernel_rfl) (by kernel_rfl) (by kernel_rfl) (by kernel_rfl) (by kernel_rfl) (by kernel_rfl) (by kernel_rfl) (by rfl) (by rfl) (by kernel_rfl) (by kernel_rfl) (by kernel_rfl) (fun _ _ _ x y => x.trans y) Ext.refl (fun _ _ x => x) (Ext.refl _).drew (fun _ _ x _ => x) trivial ?_
 refine ya ?_;refine yl5 c0 c1 c2 c3 c4 ?_;refine yl5 c0 c1 c2 c3 c4 ?_;refine a01 ?_;intro w7 hx7 hS7
 iterate 5 (rintro _ rfl)
 dsimp only [a0y];go_simp;clear hS7;have hm7 := HM6.o.ext hx7;have hn6 := HM6.o.nodup;obtain ⟨w8, hdel, hm8, hx8⟩ := hm7.b1u keyK Tryz.underlying88 ((k1, k2), k3, k4);dsimp only [kV, vI] at hdel;have HM8 := hid hm8;have HX8 := hid hx8;have HX7 := hid hx7;have HN6 := hid hn6;clear hm7 hm8 hx8 hx7 hn6;simp only [a0n, List.drop_succ_cons, List.drop_zero]
 go_wp2
 go_ret
 have hxx : ExtM b w5 w8 := (HX6.o.trans (ExtM.of HX7.o)).trans HX8.o;refine ⟨rfl, HDN.o _ _ HC5.o hxx _ HM8.o (fun x => ?_), w5, HX5.o, hxx⟩
 rw [a56 HN6.o x, HE6.o];constructor
 . rintro ⟨q | rfl, hne⟩
   . exact .inl q
   exact absurd rfl hne
 rintro (⟨q1, q2⟩ | ⟨q1, _⟩)
 . exact ⟨.inl ⟨q1, q2⟩, q2⟩
 exact absurd hz0 q1
open Go.RowKit Go.Ox Go.Shelf Mo
theorem b2Y (v : Value) (a b c : Int) (w : World) (hv : Rd w 1 v 3 [.int .i64 a, .int .i64 b, .int .i64 c]) : Calls Tryz.prog 76 #[v] w fun e w' => e = .returned (.int .i64 (orI a (orI b c))) ∧ w = w' := by
 obtain ⟨A, c9, rfl, hrd⟩ := hv;obtain ⟨g, o, rfl⟩ := hrd.addr (by omega)
 have hc0 := hrd.get (j := 0) (u := .int .i64 a) rfl;have hc1 := hrd.get (j := 1) (u := .int .i64 b) rfl;have hc2 := hrd.get (j := 2) (u := .int .i64 c) rfl;rw [Nat.add_zero] at hc0;clear hrd;unfold orI
 go_enter Tryz.func76, Tryz.ntmps76
 go_wp2
 go_loop [8] (fun i => ∃ k : Nat, k <= 3 ∧ i = .int .i64 k ∧ (0 < k -> a = 0) ∧ (1 < k -> b = 0) ∧ (2 < k -> c = 0)) (fun i => 3 - (intOf i).toNat)
 case atStart => exact ⟨0, by omega, rfl, fun h => by omega, fun h => by omega, fun h => by omega⟩
 case round =>
 obtain ⟨k, hk, rfl, h0, h1, h2⟩ := hrel
 match k, hk with
 | 0, _ =>
  by_cases ha : a = 0
  . subst ha
    clear h0 h1 h2
    go_wp2
    exact ⟨⟨1, by omega, rfl, by simp, fun h => by omega, fun h => by omega⟩, by simp [intOf]⟩
  have hb : (a != 0) = true := by simpa using ha
  clear h0 h1 h2
  go_wp2
  go_ret
  exact ⟨rfl, rfl⟩
 | 1, _ =>
  obtain rfl := h0 (by omega)
  by_cases hb : b = 0
  . subst hb
    clear h0 h1 h2
    go_wp2
    exact ⟨⟨2, by omega, rfl, by simp, by simp, fun h => by omega⟩, by simp [intOf]⟩
  have hb2 : (b != 0) = true := by simpa using hb
  clear h0 h1 h2
  go_wp2
  go_ret
  exact ⟨by simp [hb], rfl⟩
 | 2, _ =>
  obtain rfl := h0 (by omega)
  obtain rfl := h1 (by omega)
  by_cases hb : c = 0
  . subst hb
    clear h0 h1 h2
    go_wp2
    exact ⟨⟨3, by omega, rfl, by simp, by simp, by simp⟩, by simp [intOf]⟩
  have hb2 : (c != 0) = true := by simpa using hb
  clear h0 h1 h2
  go_wp2
  go_ret
  exact ⟨by simp, rfl⟩
 | 3, _ =>
  obtain rfl := h0 (by omega)
  obtain rfl := h1 (by omega)
  obtain rfl := h2 (by omega)
  clear h0 h1 h2
  go_wp2
  go_ret
  exact ⟨rfl, rfl⟩
theorem orI3 (a b : Cnt.K) : orI (a1k a.1.1 b.1.1) (orI (a1k a.1.2 b.1.2) (Mom.cmp a.2 b.2)) = Cnt.a7n a b := by
 have h := b5S a.1 b.1;unfold Cnt.a7n;rw [<- h];unfold orI
 repeat' split
 all_goals first | rfl | omega
theorem box5 (w : World) (T : TypeId) (a b c d e a' b' c' d' e' : Value) : ∃ w2, w2 = (w.alloc (.cells #[a, b, c, d, e] T)).alloc (.cells #[a', b', c', d', e'] T) ∧ a04 w w2 ∧
 w2.cell? ⟨w.heap.size, 0, none⟩ = some a ∧ w2.cell? ⟨w.heap.size, 1, none⟩ = some b ∧ w2.cell? ⟨w.heap.size, 2, none⟩ = some c ∧ w2.cell? ⟨w.heap.size, 3, none⟩ = some d ∧ w2.cell? ⟨w.heap.size, 4, none⟩ = some e ∧
 w2.cell? ⟨w.heap.size + 1, 0, none⟩ = some a' ∧ w2.cell? ⟨w.heap.size + 1, 1, none⟩ = some b' ∧ w2.cell? ⟨w.heap.size + 1, 2, none⟩ = some c' ∧ w2.cell? ⟨w.heap.size + 1, 3, none⟩ = some d' ∧ w2.cell? ⟨w.heap.size + 1, 4, none⟩ = some e' := by
 have h1 := (Blk.new w T #[a, b, c, d, e]).ext ((Ext.refl _).alloc (.cells #[a', b', c', d', e'] T));have h2 := Blk.new (w.alloc (.cells #[a, b, c, d, e] T)) T #[a', b', c', d', e'];have hs : (w.alloc (.cells #[a, b, c, d, e] T)).heap.size = w.heap.size + 1 := by simp
 rw [hs] at h2;exact ⟨_, rfl, ((a04.refl _).alloc _).alloc _, h1.cell 0, h1.cell 1, h1.cell 2, h1.cell 3, h1.cell 4, h2.cell 0, h2.cell 1, h2.cell 2, h2.cell 3, h2.cell 4⟩
theorem b2Z (x y : Cnt.S) (w : World) : Calls Tryz.prog 47 #[sV x, sV y] w fun e w' => e = .returned (.int .i64 (Cnt.a7n x.1 y.1)) ∧ a04 w w' := by
 have HC := hid (orI3 x.1 y.1);obtain ⟨⟨⟨x1, x2⟩, x3, x4⟩, x5⟩ := x;obtain ⟨⟨⟨y1, y2⟩, y3, y4⟩, y5⟩ := y;dsimp only at *
 go_enter Tryz.func47, Tryz.ntmps47
 go_wp2
 obtain ⟨w2, hw2, hx, c0, c1, c2, c3, c4, d0, d1, d2, d3, d4⟩ := box5 w 38 (.int .i64 x1) (.int .i64 x2) (.int .i64 x3) (.int .i64 x4) (.int .i64 x5) (.int .i64 y1) (.int .i64 y2) (.int .i64 y3) (.int .i64 y4) (.int .i64 y5);rw [<- hw2];clear hw2;generalize w.heap.size = n at *;refine a1i [] [] a04 a04 (fun _ => True) (by kernel_rfl) (by rfl) (by rfl) (by kernel_rfl) (by kernel_rfl) (by kernel_rfl) (fun _ _ _ x y => x.trans y) a04.refl (fun _ _ x => x) (a04.refl _).drew (fun _ _ x _ => x) trivial ?_
 refine ya ?_;refine yl1 c0 ?_;refine ya ?_;refine yl1 d0 ?_;refine a09 (fun v _ => v = .int .i64 (a1k x1 y1)) rfl rfl (a03 rfl) rfl (by exact a0g) ?_ ?_
 . intro a w' hR h1 h2 K hK
   have e1 : _ = _ := h1;have e2 : _ = _ := h2;go_simp;refine (a0s x1 y1 w').mono ?_;rintro e w2 ⟨rfl, rfl⟩;exact hK _ _ (a04.refl _) rfl
 refine ya ?_;refine yl1 c1 ?_;refine ya ?_;refine yl1 d1 ?_;refine a09 (fun v _ => v = .int .i64 (a1k x2 y2)) rfl rfl (a03 rfl) rfl (by exact a0g) ?_ ?_
 . intro a w' hR h1 h2 K hK
   have e1 : _ = _ := h1;have e2 : _ = _ := h2;go_simp;refine (a0s x2 y2 w').mono ?_;rintro e w2 ⟨rfl, rfl⟩;exact hK _ _ (a04.refl _) rfl
 refine ya ?_;refine yl2 c2 c3 ?_;refine ya ?_;refine yl2 d2 d3 ?_;refine a09 (fun v _ => v = .int .i64 (Mom.cmp (x3, x4) (y3, y4))) rfl rfl (a03 rfl) rfl a0g ?_ ?_
 . intro a w' hR h1 h2 K hK
   have e1 : _ = _ := h1;have e2 : _ = _ := h2;go_simp;refine (a2u (x3, x4) (y3, y4) w').mono ?_;rintro e w2 ⟨rfl, hg⟩;exact hK _ _ hg rfl
 refine a09 (fun v w2 => Rd w2 1 v 3 [.int .i64 (a1k x1 y1), .int .i64 (a1k x2 y2), .int .i64 (Mom.cmp (x3, x4) (y3, y4))]) rfl rfl (a03 rfl) rfl (by first | exact (fun _ _ _ h k => Rd.ext h k) | exact (fun _ _ _ h k => Rd.ext h (a04.ext k)) | exact (fun _ _ _ h k => Rd.extV h k)) ?_ ?_
 . intro a w' hR h1 h2 h3 K hK
   have e1 : _ = _ := h1;have e2 : _ = _ := h2;have e3 : _ = _ := h3;have q1 : a.tmps[11]?.getD undef = .int .i64 (a1k x1 y1) := by simpa using e1
   have q2 : a.tmps[18]?.getD undef = .int .i64 (a1k x2 y2) := by simpa using e2
   have q3 : a.tmps[23]?.getD undef = .int .i64 (Mom.cmp (x3, x4) (y3, y4)) := by simpa using e3
   go_simp;exact hK _ _ ((a04.refl _).alloc _) (Rd.lit _ #[.int .i64 (a1k x1 y1), .int .i64 (a1k x2 y2), .int .i64 (Mom.cmp (x3, x4) (y3, y4))] _ 3 rfl (by unfold maxLen; omega))
 refine a09 (fun v _ => v = .int .i64 (orI (a1k x1 y1) (orI (a1k x2 y2) (Mom.cmp (x3, x4) (y3, y4))))) rfl rfl (a03 rfl) rfl a0g ?_ ?_
 . intro a w' hR h1 K hK
   obtain ⟨x, ex, fx⟩ : ∃ x, a.tmps.getD 24 undef = x ∧ (fun v w2 => Rd w2 1 v 3 [.int .i64 (a1k x1 y1), .int .i64 (a1k x2 y2), .int .i64 (Mom.cmp (x3, x4) (y3, y4))]) x w' := ⟨_, rfl, h1⟩
   go_simp;refine (b2Y _ _ _ _ w' fx).mono ?_;rintro e w2 ⟨rfl, rfl⟩;exact hK _ _ (a04.refl _) rfl
 refine ya ?_;refine a01 ?_;intro w5 hx5 hS
 iterate 19 (rintro _ rfl)
 iterate 1 (intro _ hz; clear hz)
 iterate 2 (rintro _ rfl)
 dsimp only [a0y];go_simp
 go_wp2
 go_ret
 rw [HC.o];exact ⟨rfl, hx.trans hx5⟩
theorem ltS (x y : Cnt.S) : Go.Proofs.ltOf (fun x y : Cnt.S => Cnt.a7n x.1 y.1) x y = true ↔ Cnt.klt x.1 y.1 := by
 unfold Go.Proofs.ltOf;simp only [decide_eq_true_eq];exact Cnt.a9b
theorem b6U (x y : Cnt.S) : Go.Proofs.ltOf (fun x y : Cnt.S => Cnt.a7n x.1 y.1) x y = false ↔ ¬ Cnt.klt x.1 y.1 := by
 rw [<- ltS, Bool.not_eq_true]
theorem swoS : Go.Sort.SWO (Go.Proofs.ltOf (fun x y : Cnt.S => Cnt.a7n x.1 y.1)) where
 irrefl x := by rw [b6U]; exact Cnt.a0x _
 trans x y z h1 h2 := by rw [ltS] at *; exact Cnt.a0O h1 h2
 ntrans x y z h1 h2 := by
  rw [b6U] at *;intro h3
  rcases Cnt.a1Y x.1 y.1 with h | h | h
  . exact h1 h
  . rw [h] at h3; exact h2 h3
  . rcases Cnt.a1Y y.1 z.1 with k | k | k
    . exact h2 k
    . rw [k] at h; exact Cnt.a0x _ (Cnt.a0O h h3)
    . exact Cnt.a0x _ (Cnt.a0O h3 (Cnt.a0O k h))
theorem b4P (blk off size : Nat) (w : World) : Go.Proofs.CmpLays Tryz.prog 47 #[] encS.enc 5 (fun x y : Cnt.S => Cnt.a7n x.1 y.1) blk off size w :=
 fun _ _ _ _ x y => b2Z x y _
theorem b30 (v : Value) (l : List Cnt.S) (base : Nat) (w : World) (ho : OE 38 base w v l) (hl : l.length <= 1000000000) :
 Calls Tryz.prog 46 #[v, .func (.func 47) #[] #[]] w fun e w' =>
  e = .returned (.tuple #[]) ∧ ∃ s : List Cnt.S, s.Perm l ∧ s.Pairwise (fun a b => ¬ Cnt.klt b.1 a.1) ∧ OE 38 base w' v s ∧ w.grownBy w' v.ownBlock := by
 rcases ho.own.2 with ⟨rfl, h0⟩ | ⟨g, cap, cur, rfl, hb, _⟩
 . obtain rfl := List.eq_nil_of_length_eq_zero h0
   refine (AnyF.slices_SortFunc_none Tryz.sortS none 0 _ w).mono ?_;rintro e w' ⟨h1, rfl⟩;exact ⟨h1, [], List.Perm.refl _, List.Pairwise.nil, OE.a2g _ _ _, World.grownBy.refl _ _⟩
 . have eg : ∀ args w, (callFunc 47 args).run Tryz.prog w = .ok (.enter 47 args) w := enters_of Tryz.func47 (by kernel_rfl) rfl
   have hown : w.ownsRow base 38 5 (.slice (some ⟨g, 0, none⟩) l.length cap) l.length (l.flatMap encS.enc) := ho.own;have hH := a1b (enc := encS.enc) encS.len encS.pos hown
   have hcon := AnyQ.slices_SortFunc Tryz.sortS 5 Tryz.isAgg38 Tryz.sizeOf38 encS.enc encS.len encS.one (fun x y : Cnt.S => Cnt.a7n x.1 y.1) swoS 47 #[] g 0 cap l.toArray w eg
    (b4P g 0 _ w) hH (hown.lt g rfl).2 (by simp; omega)
   refine hcon.mono ?_;rintro e w' ⟨h1, d', n, os, hp, hs, hw⟩;have hsz : d'.size = l.length := by have := hp.1; simpa using this
   obtain ⟨q1, q2⟩ := a1K (enc := encS.enc) encS.len encS.pos hown hsz hw;refine ⟨h1, d'.toList, by simpa using a6F hp, (a3w hs (by simpa using hsz)).imp (fun {a b} h => (b6U _ _).1 h), ?_, q2⟩
   unfold OE;rw [show d'.toList.length = l.length by simpa using hsz]
   exact q1
theorem b31 {s l L : List Cnt.S} (hp : s.Perm l) (hs : s.Pairwise fun a b => ¬ Cnt.klt b.1 a.1) (hn : (l.map (·.1)).Nodup) (hg : Cnt.Good L) (h : ∀ x, x ∈ l ↔ x ∈ L) : s = L := by
 refine Cnt.a6a ?_ hg.asc fun x => by rw [hp.mem_iff, h]
 have hn2 : (s.map (·.1)).Nodup := (hp.map (·.1)).nodup_iff.2 hn;rw [List.nodup_iff_pairwise_ne, List.pairwise_map] at hn2;refine (hs.and hn2).imp fun {a b} hh => ?_
 rcases Cnt.a1Y a.1 b.1 with q | q | q
 . exact q
 . exact absurd q hh.2
 exact absurd q hh.1
theorem a3W {l : List Cnt.S} (h : (l.map (·.1)).Nodup) : l.Nodup := by
 rw [List.nodup_iff_pairwise_ne] at h ⊢;rw [List.pairwise_map] at h;exact h.imp fun {a b} hh q => hh (by rw [q])
theorem a8k {κ ν : Type} {kV : κ -> Value} {vV : ν -> Value} {w : World} {r b : Nat} {es : Array MapEntry} {clock : Nat} {l : List (κ × ν)} {seen : Array Nat} (h : Iter kV vV w r b es clock l seen) : w.iterSeen r = seen := by
 unfold World.iterSeen; rw [h.it]
theorem b03 {κ ν α : Type} [Enc α] {kV : κ -> Value} {vV : ν -> Value} {w w' : World} {r b : Nat} {es : Array MapEntry} {clock : Nat} {l : List (κ × ν)} {seen : Array Nat} (h : Iter kV vV w r b es clock l seen)
 {E base : Nat} {v : Value} {S : List α} (ho : OE E base w v S) (hg : w.grownBy w' v.ownBlock) : Iter kV vV w' r b es clock l seen := by
 have key : ∀ (k : Nat) (o : Obj), w.heap[k]? = some o -> (∀ cs t m, o ≠ .cells cs t m) -> w'.heap[k]? = w.heap[k]? := by
  intro k o hk hno;refine hg.block k (Array.getElem?_eq_some_iff.1 hk).1 fun q => ?_
  rcases ho.own.2 with ⟨rfl, _⟩ | ⟨g, cap, cur, rfl, hb, hh, _⟩
  . cases q
  injection q with q
  subst q;rw [hk] at hh;injection hh with hh
  exact hno _ _ _ hh
 exact ⟨(key _ _ h.it (by intro _ _ _ q; cases q)).trans h.it, (key _ _ h.map (by intro _ _ _ q; cases q)).trans h.map, h.ent, h.born, h.old⟩
theorem b32 (w : World) (k1 k2 k3 k4 n : Int) : RE ((w.alloc (.cells #[.int .i64 k1, .int .i64 k2, .int .i64 k3, .int .i64 k4] 92)).alloc (.cells #[.int .i64 k1, .int .i64 k2, .int .i64 k3, .int .i64 k4, .int .i64 n] 38))
 (.slice (some ⟨w.heap.size + 1, 0, none⟩) 1 1) [(((k1, k2), k3, k4), n)] := by
 have h := RE.lit (w.alloc (.cells #[.int .i64 k1, .int .i64 k2, .int .i64 k3, .int .i64 k4] 92)) #[.int .i64 k1, .int .i64 k2, .int .i64 k3, .int .i64 k4, .int .i64 n] 38 1 [(((k1, k2), k3, k4), n)] rfl (by omega) rfl
 rwa [show (w.alloc (.cells #[.int .i64 k1, .int .i64 k2, .int .i64 k3, .int .i64 k4] 92)).heap.size = w.heap.size + 1 by simp] at h
theorem ExtM.grown {b : Nat} {w w' : World} (h : ExtM b w w') : w.grownBy w' (some b) :=
 ⟨h.os, h.tape, h.output, h.size, fun k hk hne => h.block k hk fun q => hne (by rw [q])⟩
theorem OE.a1c {α : Type} [Enc α] {E base r : Nat} {w w' : World} {v : Value} {l : List α} (h : OE E base w v l) (he : ExtM r w w') (hr : ∀ cs t m, w.heap[r]? ≠ some (.cells cs t m)) : OE E base w' v l := by
 refine h.grown (ExtM.grown he) fun k hk q => ?_
 injection q with q
 subst q
 rcases h.own.2 with ⟨rfl, _⟩ | ⟨g, cap, cur, rfl, hb, hh, _⟩
 . cases hk
 injection hk with hk
 subst hk;exact hr _ _ _ hh
theorem a9d (w : World) (k1 k2 k3 k4 : Int) : Ext w (w.alloc (.cells #[.int .i64 k1, .int .i64 k2, .int .i64 k3, .int .i64 k4] 92)) ∧
 (w.alloc (.cells #[.int .i64 k1, .int .i64 k2, .int .i64 k3, .int .i64 k4] 92)).cell? ⟨w.heap.size, 0, none⟩ = some (.int .i64 k1) ∧ (w.alloc (.cells #[.int .i64 k1, .int .i64 k2, .int .i64 k3, .int .i64 k4] 92)).cell? ⟨w.heap.size, 1, none⟩ = some (.int .i64 k2) ∧
 (w.alloc (.cells #[.int .i64 k1, .int .i64 k2, .int .i64 k3, .int .i64 k4] 92)).cell? ⟨w.heap.size, 2, none⟩ = some (.int .i64 k3) ∧ (w.alloc (.cells #[.int .i64 k1, .int .i64 k2, .int .i64 k3, .int .i64 k4] 92)).cell? ⟨w.heap.size, 3, none⟩ = some (.int .i64 k4) := by
 have h := Blk.new w 92 #[.int .i64 k1, .int .i64 k2, .int .i64 k3, .int .i64 k4];exact ⟨(Ext.refl _).alloc _, h.cell 0, h.cell 1, h.cell 2, h.cell 3⟩
theorem a6x (w : World) (g b : Nat) (L : List Cnt.S) (h : CM w g b L) (hl : L.length <= 1000000) :
 Calls Tryz.prog 13 #[.pointer (some ⟨g, 0, none⟩)] w fun e w' => ∃ v, e = .returned v ∧ OE 38 w.heap.size w' v L ∧ Ext w w' := by
 have HM := hid (a3V w g b L h);have c0 : w.cell? ⟨g, 0, none⟩ = some (.map (some b)) := h.box.cell 0;obtain ⟨l, hm, hmem⟩ := h.map;have hlt := hm.lt;have hnd := hm.nodup;obtain ⟨es, clock, hr, hit, hlen⟩ := hm.range (t := 88) Tryz.underlying88
 have hll : l.length = L.length := by
  have h1 := Cnt.a5H h.good.asc;have hp : l.Perm L := (List.perm_ext_iff_of_nodup (a3W hnd) (a3W h1)).2 hmem;exact hp.length_eq
 have HIT := hid hit;have HLEN := hid hlen;have HSI := hid (fun (s : List Cnt.S) (hp : s.Perm l) hs => b31 hp hs hnd h.good hmem)
 have HLL := hid hll;have HLT := hid hlt;clear h hm hlt hnd hit hlen hmem hll
 go_enter Tryz.func13, Tryz.ntmps13
 go_wp2_with fail
 refine HM.o.mono ?_;rintro e w1 ⟨rfl, rfl⟩
 go_wp2
 have HW := hid (show Ext w (w.alloc (.mapIter (some b) clock #[] clock)) from (Ext.refl _).alloc _);clear hr c0;generalize w.alloc (.mapIter (some b) clock #[] clock) = w0 at *
 go_loopw [3] (fun o wr => ∃ seen S, Iter kV vI wr w.heap.size b es clock l seen ∧ S.Perm (b0l es l seen) ∧ OE 38 w.heap.size wr o S ∧ Ext w wr) (fun _ wr => (leftOf es (wr.iterSeen w.heap.size)).size)
 case atStart => exact ⟨#[], [], HIT.o, by rw [a7x], OE.a2g _ _ _, HW.o⟩
 case round =>
 obtain ⟨seen, S, hit, hp, ho, hext⟩ := hrel;rename World => wA
 have HP := hid hp;have HO := hid ho;have HX := hid hext;have hsn : wA.iterSeen w.heap.size = seen := by unfold World.iterSeen; rw [hit.it]
 have HSN := hid hsn
 rcases hit.next (Nat.ne_of_gt HLT.o) 0 with ⟨h0, hrun⟩ | ⟨x, w1, seen', hrun, hit1, hx1, hlt1, hp1, hent⟩
 . have hrun : ∀ ty, (Instr.next (.pointer (some ⟨w.heap.size, 0, none⟩)) false ty).run Tryz.prog wA = .ok (.tuple #[.bool false]) wA := fun _ => hrun
   have hall := a9o HLEN.o h0;have HSL := hid (show S.Perm l by rw [<- hall]; exact HP.o)
   obtain ⟨A9, c9, rfl⟩ := HO.o.re.form;have hSl : S.length <= 1000000000 := by have := HSL.o.length_eq; have := HLL.o; omega
   clear h0 hall hp ho hext hit hsn
   go_wp2_with fail
   refine (b30 _ S w.heap.size wA HO.o hSl).mono ?_;rintro e w2 ⟨rfl, s, hps, hss, ho2, hg2⟩;have hsL := HSI.o s (hps.trans HSL.o) hss;subst hsL
   go_wp2
   go_ret
   exact ⟨_, rfl, ho2, HX.o.grown hg2 fun k hk => (HO.o.own.lt k hk).1⟩
 have hrun : ∀ ty, (Instr.next (.pointer (some ⟨w.heap.size, 0, none⟩)) false ty).run Tryz.prog wA = .ok (.tuple #[.bool true, kV x.1, vI x.2]) w1 := fun _ => hrun
 have ho1 := OE.a1c HO.o hx1 (by rw [hit.it]; intro _ _ _ q; cases q)
 have hSl : S.length <= 1000000 := by
  have h1 := HP.o.length_eq
  have h2 : (b0l es l seen).length <= l.length := by
   unfold b0l;rw [List.length_map];refine Nat.le_trans (List.length_filter_le _ _) ?_;rw [List.length_zip]; omega
  have := HLL.o;omega
 have HO1 := hid ho1;have HX1 := hid (HX.o.andM hx1 (Nat.le_refl _));have HI1 := hid hit1;have HL1 := hid hlt1;have HP1 := hid ((HP.o.append_right [x]).trans hp1.symm);obtain ⟨⟨⟨x1, x2⟩, x3, x4⟩, x5⟩ := x;dsimp only [kV, vI] at hrun hent;obtain ⟨A9, c9, rfl⟩ := HO1.o.re.form;obtain ⟨hxk, k1, k2, k3, k4⟩ := a9d w1 x1 x2 x3 x4;have HXK := hid hxk;clear hp ho hext hit hsn ho1 hx1 hit1 hlt1 hp1 hxk;have HLT2 := hid (b32 w1 x1 x2 x3 x4 x5);have hxs : Ext w1 ((w1.alloc (.cells #[.int .i64 x1, .int .i64 x2, .int .i64 x3, .int .i64 x4] 92)).alloc (.cells #[.int .i64 x1, .int .i64 x2, .int .i64 x3, .int .i64 x4, .int .i64 x5] 38)) := ((Ext.refl _).alloc _).alloc _;have HXS := hid hxs;have HO2 := hid (HO1.o.ext hxs);have HI2 := hid (HI1.o.ext hxs);have HX2 := hid (HX1.o.trans hxs);clear hxs
 go_wp2_with (at_builtin; refine a07 rfl a5V _ _ _ rfl w.heap.size _ _ S [(((x1, x2), x3, x4), x5)] rfl HO2.o rfl HLT2.o (by simp only [List.length_singleton]; omega) (by simp only [List.length_singleton]; unfold maxLen; omega) HX2.o.size ?_; intro v6 w6 ho6 hb6 hg6)
 have hi6 := b03 HI2.o HO2.o hg6;refine ⟨⟨seen', S ++ [(((x1, x2), x3, x4), x5)], hi6, HP1.o, ho6, Below.trans HX2.o hb6⟩, ?_⟩;rw [a8k hi6, HSN.o];exact HL1.o
end Go.Proofs.YtdkejfjcchlnpaaGreat.Ct
namespace Go.Proofs.YtdkejfjcchlnpaaGreat.Ct
open Go.RowKit Go.Ox Go.Shelf Mo
attribute [local irreducible] OP RP
theorem a7O (a b c d : Int) (w : World) : (Op.equalIn 10000 27 (.agg #[.int .i64 a, .int .i64 b]) (.agg #[.int .i64 c, .int .i64 d])).run Tryz.prog w = .ok (a3U a b c d) w := by
 have u3 := Tryz.underlying3;have a3 := Tryz.isAgg3;have z3 := Tryz.sizeOf3;have hS : Tryz.prog.underlying 27 = some (.struct (Tryz.prog.fieldsOf 27)) := by kernel_rfl
 have hp : Tryz.prog.stoodInHeld 27 = false := by kernel_rfl
 rw [show (10000 : Nat) = 9999 + 1 from rfl, run_equalIn_agg w 9999 27 _ _ hS hp];simp only [Program.fieldsOf, Tryz.underlying27];rw [b5G];go_simp
 by_cases h1 : a = c <;> by_cases h2 : b = d <;> simp [h1, h2]
theorem b5o (a b c d : Int) (w : World) : (binOp .eql 27 (.agg #[.int .i64 a, .int .i64 b]) (.agg #[.int .i64 c, .int .i64 d])).run Tryz.prog w = .ok (.bool (a3U a b c d)) w := by
 rw [run_eql_struct, a7O]; rfl
theorem b33 : Tryz.prog.eqGuardType Tryz.prog.depth 27 = false := by kernel_rfl
theorem re5 {w : World} {A : Option Addr} {n c : Nat} {l : List Cnt.S} (h : RE w (.slice A n c) l) {i : Nat} (hi : i < l.length) :
 ∃ b o, A = some ⟨b, o, none⟩ ∧ w.cell? ⟨b, o + i * 5, none⟩ = some (.int .i64 l[i].1.1.1) ∧ w.cell? ⟨b, o + i * 5 + 1, none⟩ = some (.int .i64 l[i].1.1.2) ∧ w.cell? ⟨b, o + i * 5 + 2, none⟩ = some (.int .i64 l[i].1.2.1) ∧ w.cell? ⟨b, o + i * 5 + 3, none⟩ = some (.int .i64 l[i].1.2.2) ∧ w.cell? ⟨b, o + i * 5 + 4, none⟩ = some (.int .i64 l[i].2) := by
 obtain ⟨b, o, h1, h2⟩ := h.at_ hi;exact ⟨b, o, h1, h2 0 _ rfl, h2 1 _ rfl, h2 2 _ rfl, h2 3 _ rfl, h2 4 _ rfl⟩
end Go.Proofs.YtdkejfjcchlnpaaGreat.Ct
namespace Go.Ox.Fr
open Go.Ox.Gr Go.Ox.Pl Go.Proofs.YtdkejfjcchlnpaaGreat Go.Proofs.YtdkejfjcchlnpaaGreat.Mo
def cm1 (g : G) (q : P2) (s : Cnt.S) : Option Mom.M := (a7m g s.1.1 q).bind fun w => if (a1f w s.1.2).2 = 0 then some (a1f w s.1.2).1 else none
def cmB (g : G) (q : P2) (but : Cnt.S -> Bool) (s : Cnt.S) : Option Mom.M := if but s = true then none else cm1 g q s
def comes (g : G) (L : List Cnt.S) (q : P2) (but : Cnt.S -> Bool) : List Mom.M := L.filterMap (cmB g q but)
def no (_ : Cnt.S) : Bool := false
def own (q : P2) (m : Mom.M) (s : Cnt.S) : Bool := decide (s.1.1 = q) && decide (s.1.2 = m)
theorem a3X (g : G) (L : List Cnt.S) (q : P2) (but : Cnt.S -> Bool) : (comes g L q but).length <= L.length := List.length_filterMap_le _ _
def may (g : G) (q : P2) : Int := if gOk g = true then (if (gNd g q).isSome = true then 0 else 1) else 170
end Go.Ox.Fr
namespace Go.Ox
open Go.RowKit
def b34 (w : World) : List (Array Value × TypeId) -> World
 | [] => w
 | x :: r => b34 (w.alloc (.cells x.1 x.2)) r
theorem a0h : ∀ (bs : List (Array Value × TypeId)) (w : World), Ext w (b34 w bs)
 | [], w => Ext.refl w
 | x :: r, w => ((Ext.refl w).alloc (.cells x.1 x.2)).trans (a0h r _)
theorem a08 : ∀ (bs : List (Array Value × TypeId)) (w : World) (k : Nat) (cs : Array Value) (t : TypeId), bs[k]? = some (cs, t) -> Blk (b34 w bs) (w.heap.size + k) t cs
 | [], w, k, cs, t, h => by simp at h
 | x :: r, w, 0, cs, t, h => by
  simp only [List.getElem?_cons_zero, Option.some.injEq] at h;subst h;exact (Blk.new w t cs).ext (a0h r _)
 | x :: r, w, k + 1, cs, t, h => by
  have := a08 r (w.alloc (.cells x.1 x.2)) k cs t (by simpa using h)
  have e : (w.alloc (.cells x.1 x.2)).heap.size + k = w.heap.size + (k + 1) := by simp; omega
  rw [e] at this;exact this
end Go.Ox
namespace Go.Proofs.YtdkejfjcchlnpaaGreat.Mo
open Go.RowKit Go.Ox Go.Shelf
theorem ltM (x y : Mom.M) : Go.Proofs.ltOf Mom.cmp x y = true ↔ Mom.lt x y := by
 unfold Go.Proofs.ltOf;simp only [decide_eq_true_eq];exact Mom.a65
theorem b6V (x y : Mom.M) : Go.Proofs.ltOf Mom.cmp x y = false ↔ ¬ Mom.lt x y := by
 rw [<- ltM, Bool.not_eq_true]
theorem swoM : Go.Sort.SWO (Go.Proofs.ltOf Mom.cmp) where
 irrefl x := by rw [b6V]; exact Mom.lt_irrefl x
 trans x y z h1 h2 := by rw [ltM] at *; exact Mom.lt_trans h1 h2
 ntrans x y z h1 h2 := by
  rw [b6V] at *;intro h3
  rcases Mom.a3o x y with h | h | h
  . exact h1 h
  . subst h; exact h2 h3
  . rcases Mom.a3o y z with k | k | k
    . exact h2 k
    . subst k; exact h1 h3
    . exact Mom.lt_irrefl _ (Mom.lt_trans h3 (Mom.lt_trans k h))
theorem b4Q (blk off size : Nat) (w : World) : Go.Proofs.CmpLays Tryz.prog 78 #[] b3T 2 Mom.cmp blk off size w :=
 fun _ _ _ _ x y => a2u x y _
theorem pV_enc (l : List Mom.M) : pV l = l.flatMap b3T := rfl
theorem b35 (v : Value) (l : List Mom.M) (base : Nat) (w : World) (ho : OP 29 base w v l) (hl : l.length <= 1000000000) :
 Calls Tryz.prog 81 #[v, .func (.func 78) #[] #[]] w fun e w' =>
  e = .returned (.tuple #[]) ∧ ∃ s : List Mom.M, s.Perm l ∧ s.Pairwise (fun a b => ¬ Mom.lt b a) ∧ OP 29 base w' v s ∧ w.grownBy w' v.ownBlock := by
 rcases ho.own.2 with ⟨rfl, h0⟩ | ⟨g, cap, cur, rfl, hb, _⟩
 . obtain rfl := List.eq_nil_of_length_eq_zero h0
   refine (AnyF.slices_SortFunc_none Tryz.sortMo none 0 _ w).mono ?_;rintro e w' ⟨h1, rfl⟩;exact ⟨h1, [], List.Perm.refl _, List.Pairwise.nil, OP.a2g _ _ _, World.grownBy.refl _ _⟩
 . have eg : ∀ args w, (callFunc 78 args).run Tryz.prog w = .ok (.enter 78 args) w := enters_of Tryz.func78 (by kernel_rfl) rfl
   have hH := a1b (enc := b3T) (fun _ => rfl) (by omega) ho.own
   have hcon := AnyQ.slices_SortFunc Tryz.sortMo 2 Tryz.isAgg29 Tryz.sizeOf29 b3T (fun _ => rfl) (fun x u hu => by simp at hu; rcases hu with rfl | rfl <;> rfl) Mom.cmp swoM 78 #[] g 0 cap l.toArray w eg
    (b4Q g 0 _ w) hH (ho.own.lt g rfl).2 (by simp; omega)
   refine hcon.mono ?_;rintro e w' ⟨h1, d', n, os, hp, hs, hw⟩;have hsz : d'.size = l.length := by have := hp.1; simpa using this
   obtain ⟨q1, q2⟩ := a1K (enc := b3T) (fun _ => rfl) (by omega) ho.own hsz hw
   refine ⟨h1, d'.toList, by simpa using a6F hp, (a3w hs (by simpa using hsz)).imp (fun {a b} h => (b6V _ _).1 h), ?_, q2⟩
   unfold OP;rw [pV_enc, show d'.toList.length = l.length by simpa using hsz]
   exact q1
end Go.Proofs.YtdkejfjcchlnpaaGreat.Mo
