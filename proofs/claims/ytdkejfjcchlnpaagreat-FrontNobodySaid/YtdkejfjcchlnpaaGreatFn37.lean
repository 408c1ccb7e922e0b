/-
  Cnt2, packed: what the claim needs of them.
-/
import Derived.Test.YtdkejfjcchlnpaaGreatFn36
set_option maxHeartbeats 40000000
open Go.Lib (hid)
set_option linter.unusedSimpArgs false
set_option linter.unusedVariables false
set_option maxRecDepth 100000
namespace Go.Proofs.YtdkejfjcchlnpaaGreat.Ct
open Go.RowKit Go.Ox Mo
theorem boxP (w : World) (a b c d : Value) : ((w.alloc (.cells #[a, b] 27)).alloc (.cells #[c, d] 29)).cell? ⟨w.heap.size, 0, none⟩ = some a ∧ ((w.alloc (.cells #[a, b] 27)).alloc (.cells #[c, d] 29)).cell? ⟨w.heap.size, 1, none⟩ = some b ∧
 ((w.alloc (.cells #[a, b] 27)).alloc (.cells #[c, d] 29)).cell? ⟨w.heap.size + 1, 0, none⟩ = some c ∧ ((w.alloc (.cells #[a, b] 27)).alloc (.cells #[c, d] 29)).cell? ⟨w.heap.size + 1, 1, none⟩ = some d :=
 a7F w _ _ a b c d
theorem CM.put {w : World} {g b : Nat} {L : List Cnt.S} (h : CM w g b L) (k : Cnt.K) (n : Int) :
 ∃ w' l', (Instr.mapUpdate 88 (.map (some b)) (kV k) (vI n)).run Tryz.prog w = .ok () w' ∧ ExtM b w w' ∧ a29 kV vI w' b l' ∧ ∀ x, x ∈ l' ↔ (x ∈ L ∧ x.1 ≠ k) ∨ x = (k, n) := by
 obtain ⟨l, h1, h2⟩ := h.map;obtain ⟨w', l', h3, h4, h5, h6⟩ := h1.a6Q keyK Tryz.underlying88 k n;exact ⟨w', l', h3, h5, h4, fun x => by rw [h6, h2]⟩
theorem CM.done {w w' : World} {g b : Nat} {L : List Cnt.S} (h : CM w g b L) (hx : ExtM b w w') {l' : List Cnt.S} (hm : a29 kV vI w' b l') {k : Cnt.K} {n : Int} (h0 : 0 ≤ n) (h1 : n ≤ 1073741824)
 (hmem : ∀ x, x ∈ l' ↔ (x ∈ L ∧ x.1 ≠ k) ∨ (n ≠ 0 ∧ x = (k, n))) : CM w' g b (Cnt.b36 L (k, n)) :=
 ⟨h.box.a1Q hx h.ne, h.ne, ⟨l', hm, fun x => by rw [hmem, (Cnt.a6J h.good.asc (k, n)).2 x]⟩, Cnt.b0O h.good _ h0 h1⟩
theorem b4k (w : World) (g b : Nat) (L : List Cnt.S) (h : CM w g b L) (k : Cnt.K) (n : Int) (hk : Mom.ok k.2 = false) :
 Calls Tryz.prog 14 #[.pointer (some ⟨g, 0, none⟩), pV2 k.1, pV2 k.2, .int .i64 n] w fun e w' => e = .returned (.int .i64 40) ∧ Ext w w' := by
 obtain ⟨⟨k1, k2⟩, k3, k4⟩ := k;dsimp only at *;obtain ⟨c1, c2, c3, c4⟩ := boxP w (.int .i64 k1) (.int .i64 k2) (.int .i64 k3) (.int .i64 k4);have hx : Ext w ((w.alloc (.cells #[.int .i64 k1, .int .i64 k2] 27)).alloc (.cells #[.int .i64 k3, .int .i64 k4] 29)) := ((Ext.refl _).alloc _).alloc _;have HX := hid hx;have HC := hid (h.ext hx);have HM := hid (fun w h => a30 w g b L h)
 have HK := hid (fun w => a0p (k3, k4) w)
 rw [hk] at HK;clear h hx hk
 go_enter Tryz.func14, Tryz.ntmps14
 go_wp2_with fail
 refine (HM.o _ HC.o).mono ?_;rintro e w1 ⟨rfl, rfl⟩
 go_wp2_with fail
 refine (HK.o _).mono ?_;rintro e w2 ⟨rfl, he2⟩
 go_wp2
 go_ret
 exact ⟨rfl, HX.o.trans he2⟩
theorem b4l (w : World) (g b : Nat) (L : List Cnt.S) (h : CM w g b L) (k : Cnt.K) (n : Int) (hk : Mom.ok k.2 = true) (hr : n < - Cnt.was L k ∨ 1073741824 - Cnt.was L k < n) :
 Calls Tryz.prog 14 #[.pointer (some ⟨g, 0, none⟩), pV2 k.1, pV2 k.2, .int .i64 n] w fun e w' => e = .returned (.int .i64 210) ∧ Ext w w' := by
 obtain ⟨⟨k1, k2⟩, k3, k4⟩ := k;dsimp only at *;obtain ⟨c1, c2, c3, c4⟩ := boxP w (.int .i64 k1) (.int .i64 k2) (.int .i64 k3) (.int .i64 k4);have hx : Ext w ((w.alloc (.cells #[.int .i64 k1, .int .i64 k2] 27)).alloc (.cells #[.int .i64 k3, .int .i64 k4] 29)) := ((Ext.refl _).alloc _).alloc _;have HX := hid hx;have HC := hid (h.ext hx);have HM := hid (fun w h => a30 w g b L h)
 have HK := hid (fun w => a0p (k3, k4) w)
 have HW := hid (fun (w : World) (h : CM w g b L) => h.look ((k1, k2), k3, k4))
 obtain ⟨z0, z1⟩ := Cnt.a3q h.good ((k1, k2), k3, k4);rw [hk] at HK;clear hx hk;generalize hz : Cnt.was L ((k1, k2), k3, k4) = z at *;clear h
 go_enter Tryz.func14, Tryz.ntmps14
 go_wp2_with fail
 refine (HM.o _ HC.o).mono ?_;rintro e w1 ⟨rfl, rfl⟩
 go_wp2_with fail
 refine (HK.o _).mono ?_;rintro e w2 ⟨rfl, he2⟩;have HX2 := hid (HX.o.trans he2);have HC2 := hid (HC.o.ext he2);have c1 := he2.cell c1;have c2 := he2.cell c2;have c3 := he2.cell c3;have c4 := he2.cell c4;clear he2 HX HC
 go_wp2
 have hn := Blk.new w2 92 #[.int .i64 k1, .int .i64 k2, .int .i64 k3, .int .i64 k4];have hx3 : Ext w2 (w2.alloc (.cells #[.int .i64 k1, .int .i64 k2, .int .i64 k3, .int .i64 k4] 92)) := (Ext.refl _).alloc _;have HX3 := hid (HX2.o.trans hx3);have HC3 := hid (HC2.o.ext hx3);clear c1 c2 c3 c4 HX2 hx3;generalize hw3 : w2.alloc (.cells #[.int .i64 k1, .int .i64 k2, .int .i64 k3, .int .i64 k4] 92) = w3 at *;have c0 : w3.cell? ⟨g, 0, none⟩ = some (.map (some b)) := HC3.o.box.cell 0;have c1 := hn.c0;have c2 := hn.c1;have c3 := hn.c2;have c4 := hn.c3;clear hn;generalize w2.heap.size = nk at *;refine a1P (by kernel_rfl) (by rfl) (by rfl) (by kernel_rfl) ?_
 refine ma ?_;refine ml5 c0 c1 c2 c3 c4 ?_;refine ml5 c0 c1 c2 c3 c4 ?_
 (first | (refine a2B Ext.refl rfl ?_) | (refine wpM_val1 Ext.refl rfl rfl ?_)); apply Exists.intro; refine ⟨?_, ?_⟩
 · intro a w' hR h1 h2
   have e1 : _ = _ := h1;have e2 : _ = _ := h2;have hl := HW.o w' (HC3.o.ext hR);go_simp;rfl
 refine ma ?_;refine a5s ?_;intro w4 hx4
 iterate 7 (rintro _ rfl)
 dsimp only [a1K];go_simp;have HX4 := hid (HX3.o.trans hx4);have HC4 := hid (HC3.o.ext hx4);have c0 := hx4.cell c0;have c1 := hx4.cell c1;have c2 := hx4.cell c2;have c3 := hx4.cell c3;have c4 := hx4.cell c4;clear hx4 HX3 HC3
 rcases hr with hr | hr
 · go_wp2
   go_ret
   exact ⟨rfl, HX4.o⟩
 have hr2 : ¬ n < -z := by omega
 go_wp2
 go_ret
 exact ⟨rfl, HX4.o⟩
theorem add_ok (w : World) (g b : Nat) (L : List Cnt.S) (h : CM w g b L) (k : Cnt.K) (n : Int) (hk : Mom.ok k.2 = true) (hr : - Cnt.was L k ≤ n) (hr2 : n ≤ 1073741824 - Cnt.was L k) (hz0 : Cnt.was L k + n ≠ 0) :
 Calls Tryz.prog 14 #[.pointer (some ⟨g, 0, none⟩), pV2 k.1, pV2 k.2, .int .i64 n] w fun e w' => e = .returned (.int .i64 0) ∧ CM w' g b (Cnt.b36 L (k, Cnt.was L k + n)) ∧ ∃ w1, Ext w w1 ∧ ExtM b w1 w' := by
 obtain ⟨⟨k1, k2⟩, k3, k4⟩ := k;dsimp only at *;obtain ⟨c1, c2, c3, c4⟩ := boxP w (.int .i64 k1) (.int .i64 k2) (.int .i64 k3) (.int .i64 k4);have hx : Ext w ((w.alloc (.cells #[.int .i64 k1, .int .i64 k2] 27)).alloc (.cells #[.int .i64 k3, .int .i64 k4] 29)) := ((Ext.refl _).alloc _).alloc _;have HX := hid hx;have HC := hid (h.ext hx);have HM := hid (fun w h => a30 w g b L h)
 have HK := hid (fun w => a0p (k3, k4) w)
 have HW := hid (fun (w : World) (h : CM w g b L) => h.look ((k1, k2), k3, k4))
 obtain ⟨z0, z1⟩ := Cnt.a3q h.good ((k1, k2), k3, k4);rw [hk] at HK;clear hx hk;generalize hz : Cnt.was L ((k1, k2), k3, k4) = z at *;have HDN := hid (fun (w w' : World) (h : CM w g b L) (hx : ExtM b w w') (l' : List Cnt.S) (hm : a29 kV vI w' b l') (hmem : ∀ x, x ∈ l' ↔ (x ∈ L ∧ x.1 ≠ ((k1, k2), k3, k4)) ∨ (z + n ≠ 0 ∧ x = (((k1, k2), k3, k4), z + n))) => h.done hx hm (by omega) (by omega) hmem)
 clear h
 go_enter Tryz.func14, Tryz.ntmps14
 go_wp2_with fail
 refine (HM.o _ HC.o).mono ?_;rintro e w1 ⟨rfl, rfl⟩
 go_wp2_with fail
 refine (HK.o _).mono ?_;rintro e w2 ⟨rfl, he2⟩;have HX2 := hid (HX.o.trans he2);have HC2 := hid (HC.o.ext he2);have c1 := he2.cell c1;have c2 := he2.cell c2;have c3 := he2.cell c3;have c4 := he2.cell c4;clear he2 HX HC
 go_wp2
 have hn := Blk.new w2 92 #[.int .i64 k1, .int .i64 k2, .int .i64 k3, .int .i64 k4];have hx3 : Ext w2 (w2.alloc (.cells #[.int .i64 k1, .int .i64 k2, .int .i64 k3, .int .i64 k4] 92)) := (Ext.refl _).alloc _;have HX3 := hid (HX2.o.trans hx3);have HC3 := hid (HC2.o.ext hx3);clear c1 c2 c3 c4 HX2 hx3;generalize hw3 : w2.alloc (.cells #[.int .i64 k1, .int .i64 k2, .int .i64 k3, .int .i64 k4] 92) = w3 at *;have c0 : w3.cell? ⟨g, 0, none⟩ = some (.map (some b)) := HC3.o.box.cell 0;have c1 := hn.c0;have c2 := hn.c1;have c3 := hn.c2;have c4 := hn.c3;clear hn;generalize w2.heap.size = nk at *;refine a1P (by kernel_rfl) (by rfl) (by rfl) (by kernel_rfl) ?_
 refine ma ?_;refine ml5 c0 c1 c2 c3 c4 ?_;refine ml5 c0 c1 c2 c3 c4 ?_
 (first | (refine a2B Ext.refl rfl ?_) | (refine wpM_val1 Ext.refl rfl rfl ?_)); apply Exists.intro; refine ⟨?_, ?_⟩
 · intro a w' hR h1 h2
   have e1 : _ = _ := h1;have e2 : _ = _ := h2;have hl := HW.o w' (HC3.o.ext hR);go_simp;rfl
 refine ma ?_;refine a5s ?_;intro w4 hx4
 iterate 7 (rintro _ rfl)
 dsimp only [a1K];go_simp;have HX4 := hid (HX3.o.trans hx4);have HC4 := hid (HC3.o.ext hx4);have c0 := hx4.cell c0;have c1 := hx4.cell c1;have c2 := hx4.cell c2;have c3 := hx4.cell c3;have c4 := hx4.cell c4;clear hx4 HX3 HC3;have g1 : ¬ n < -z := by omega
 have g2 : ¬ 1073741824 - z < n := by omega
 have g3 : (z + n == 0) = false := by simpa using hz0
 go_wp2
 refine a0o 8 [] [] Ext Ext (fun _ => True) (by kernel_rfl) (by kernel_rfl) (by kernel_rfl) (by kernel_rfl) (by kernel_rfl) (by kernel_rfl) (by kernel_rfl) (by rfl) (by rfl) (by kernel_rfl) (by kernel_rfl) (by kernel_rfl) (fun _ _ _ x y => x.trans y) Ext.refl (fun _ _ x => x) (Ext.refl _).drew (fun _ _ x _ => x) trivial ?_
 refine ya ?_;refine yl5 c0 c1 c2 c3 c4 ?_;refine yl5 c0 c1 c2 c3 c4 ?_;refine ya ?_;refine a0f ?_;intro w5 hx5 hS5
 iterate 8 (rintro _ rfl)
 dsimp only [a1K];go_simp;have HX5 := hid (HX4.o.trans hx5);have HC5 := hid (HC4.o.ext hx5);have c0 := hx5.cell c0;have c1 := hx5.cell c1;have c2 := hx5.cell c2;have c3 := hx5.cell c3;have c4 := hx5.cell c4;clear hx5 HX4 HC4 hS5;obtain ⟨w6, l6, hup, hx6, hm6, hmem6⟩ := HC5.o.put ((k1, k2), k3, k4) (z + n);dsimp only [kV, vI] at hup;have HM6 := hid hm6;have HE6 := hid hmem6;have HX6 := hid hx6;have c0 := hx6.cells _ _ c0;have c1 := hx6.cells _ _ c1;have c2 := hx6.cells _ _ c2;have c3 := hx6.cells _ _ c3;have c4 := hx6.cells _ _ c4;clear hx6 hm6 hmem6;simp only [a0x, List.drop_succ_cons, List.drop_zero]
 go_wp2
 rw [hup];simp only [Result.andThen];rw [Oper.upon_skip];clear hup
 go_wp2
 go_ret
 exact ⟨rfl, HDN.o _ _ HC5.o HX6.o _ HM6.o (fun x => by rw [HE6.o]; simp [hz0]), w5, HX5.o, HX6.o⟩
theorem add_zero (w : World) (g b : Nat) (L : List Cnt.S) (h : CM w g b L) (k : Cnt.K) (n : Int) (hk : Mom.ok k.2 = true) (hr : - Cnt.was L k ≤ n) (hr2 : n ≤ 1073741824 - Cnt.was L k) (hz0 : Cnt.was L k + n = 0) :
 Calls Tryz.prog 14 #[.pointer (some ⟨g, 0, none⟩), pV2 k.1, pV2 k.2, .int .i64 n] w fun e w' => e = .returned (.int .i64 0) ∧ CM w' g b (Cnt.b36 L (k, Cnt.was L k + n)) ∧ ∃ w1, Ext w w1 ∧ ExtM b w1 w' := by
 obtain ⟨⟨k1, k2⟩, k3, k4⟩ := k;dsimp only at *;obtain ⟨c1, c2, c3, c4⟩ := boxP w (.int .i64 k1) (.int .i64 k2) (.int .i64 k3) (.int .i64 k4);have hx : Ext w ((w.alloc (.cells #[.int .i64 k1, .int .i64 k2] 27)).alloc (.cells #[.int .i64 k3, .int .i64 k4] 29)) := ((Ext.refl _).alloc _).alloc _;have HX := hid hx;have HC := hid (h.ext hx);have HM := hid (fun w h => a30 w g b L h)
 have HK := hid (fun w => a0p (k3, k4) w)
 have HW := hid (fun (w : World) (h : CM w g b L) => h.look ((k1, k2), k3, k4))
 obtain ⟨z0, z1⟩ := Cnt.a3q h.good ((k1, k2), k3, k4);rw [hk] at HK;clear hx hk;generalize hz : Cnt.was L ((k1, k2), k3, k4) = z at *;have HDN := hid (fun (w w' : World) (h : CM w g b L) (hx : ExtM b w w') (l' : List Cnt.S) (hm : a29 kV vI w' b l') (hmem : ∀ x, x ∈ l' ↔ (x ∈ L ∧ x.1 ≠ ((k1, k2), k3, k4)) ∨ (z + n ≠ 0 ∧ x = (((k1, k2), k3, k4), z + n))) => h.done hx hm (by omega) (by omega) hmem)
 clear h
 go_enter Tryz.func14, Tryz.ntmps14
 go_wp2_with fail
 refine (HM.o _ HC.o).mono ?_;rintro e w1 ⟨rfl, rfl⟩
 go_wp2_with fail
 refine (HK.o _).mono ?_;rintro e w2 ⟨rfl, he2⟩;have HX2 := hid (HX.o.trans he2);have HC2 := hid (HC.o.ext he2);have c1 := he2.cell c1;have c2 := he2.cell c2;have c3 := he2.cell c3;have c4 := he2.cell c4;clear he2 HX HC
 go_wp2
 have hn := Blk.new w2 92 #[.int .i64 k1, .int .i64 k2, .int .i64 k3, .int .i64 k4];have hx3 : Ext w2 (w2.alloc (.cells #[.int .i64 k1, .int .i64 k2, .int .i64 k3, .int .i64 k4] 92)) := (Ext.refl _).alloc _;have HX3 := hid (HX2.o.trans hx3);have HC3 := hid (HC2.o.ext hx3);clear c1 c2 c3 c4 HX2 hx3;generalize hw3 : w2.alloc (.cells #[.int .i64 k1, .int .i64 k2, .int .i64 k3, .int .i64 k4] 92) = w3 at *;have c0 : w3.cell? ⟨g, 0, none⟩ = some (.map (some b)) := HC3.o.box.cell 0;have c1 := hn.c0;have c2 := hn.c1;have c3 := hn.c2;have c4 := hn.c3;clear hn;generalize w2.heap.size = nk at *;refine a1P (by kernel_rfl) (by rfl) (by rfl) (by kernel_rfl) ?_
 refine ma ?_;refine ml5 c0 c1 c2 c3 c4 ?_;refine ml5 c0 c1 c2 c3 c4 ?_
 (first | (refine a2B Ext.refl rfl ?_) | (refine wpM_val1 Ext.refl rfl rfl ?_)); apply Exists.intro; refine ⟨?_, ?_⟩
 · intro a w' hR h1 h2
   have e1 : _ = _ := h1;have e2 : _ = _ := h2;have hl := HW.o w' (HC3.o.ext hR);go_simp;rfl
 refine ma ?_;refine a5s ?_;intro w4 hx4
 iterate 7 (rintro _ rfl)
 dsimp only [a1K];go_simp;have HX4 := hid (HX3.o.trans hx4);have HC4 := hid (HC3.o.ext hx4);have c0 := hx4.cell c0;have c1 := hx4.cell c1;have c2 := hx4.cell c2;have c3 := hx4.cell c3;have c4 := hx4.cell c4;clear hx4 HX3 HC3;have g1 : ¬ n < -z := by omega
 have g2 : ¬ 1073741824 - z < n := by omega
 have g3 : (z + n == 0) = true := by simpa using hz0
 go_wp2
 refine a0o 8 [] [] Ext Ext (fun _ => True) (by kernel_rfl) (by kernel_rfl) (by kernel_rfl) (by kernel_rfl) (by kernel_rfl) (by kernel_rfl) (by kernel_rfl) (by rfl) (by rfl) (by kernel_rfl) (by kernel_rfl) (by kernel_rfl) (fun _ _ _ x y => x.trans y) Ext.refl (fun _ _ x => x) (Ext.refl _).drew (fun _ _ x _ => x) trivial ?_
 refine ya ?_;refine yl5 c0 c1 c2 c3 c4 ?_;refine yl5 c0 c1 c2 c3 c4 ?_;refine ya ?_;refine a0f ?_;intro w5 hx5 hS5
 iterate 8 (rintro _ rfl)
 dsimp only [a1K];go_simp;have HX5 := hid (HX4.o.trans hx5);have HC5 := hid (HC4.o.ext hx5);have c0 := hx5.cell c0;have c1 := hx5.cell c1;have c2 := hx5.cell c2;have c3 := hx5.cell c3;have c4 := hx5.cell c4;clear hx5 HX4 HC4 hS5;obtain ⟨w6, l6, hup, hx6, hm6, hmem6⟩ := HC5.o.put ((k1, k2), k3, k4) (z + n);dsimp only [kV, vI] at hup;rw [hz0] at hup;have HM6 := hid hm6;have HE6 := hid hmem6;have HX6 := hid hx6;have c0 := hx6.cells _ _ c0;have c1 := hx6.cells _ _ c1;have c2 := hx6.cells _ _ c2;have c3 := hx6.cells _ _ c3;have c4 := hx6.cells _ _ c4;clear hx6 hm6 hmem6;simp only [a0x, List.drop_succ_cons, List.drop_zero]
 go_wp2
 rw [hup];simp only [Result.andThen];rw [Oper.upon_skip];clear hup
 go_wp2
 refine a0o 5 [] [] Ext Ext (fun _ => True) (by kernel_rfl) (by kernel_rfl) (by kernel_rfl) (by kernel_rfl) (by kernel_rfl) (by kernel_rfl) (by kernel_rfl) (by rfl) (by rfl) (by kernel_rfl) (by kernel_rfl) (by kernel_rfl) (fun _ _ _ x y => x.trans y) Ext.refl (fun _ _ x => x) (Ext.refl _).drew (fun _ _ x _ => x) trivial ?_
 refine ya ?_;refine yl5 c0 c1 c2 c3 c4 ?_;refine yl5 c0 c1 c2 c3 c4 ?_;refine a0f ?_;intro w7 hx7 hS7
 iterate 5 (rintro _ rfl)
 dsimp only [a1K];go_simp;clear hS7;have hm7 := HM6.o.ext hx7;have hn6 := HM6.o.nodup;obtain ⟨w8, hdel, hm8, hx8⟩ := hm7.a9n keyK Tryz.underlying88 ((k1, k2), k3, k4);dsimp only [kV, vI] at hdel;have HM8 := hid hm8;have HX8 := hid hx8;have HX7 := hid hx7;have HN6 := hid hn6;clear hm7 hm8 hx8 hx7 hn6;simp only [a0x, List.drop_succ_cons, List.drop_zero]
 go_wp2
 go_ret
 have hxx : ExtM b w5 w8 := (HX6.o.trans (ExtM.of HX7.o)).trans HX8.o;refine ⟨rfl, HDN.o _ _ HC5.o hxx _ HM8.o (fun x => ?_), w5, HX5.o, hxx⟩
 rw [a3W HN6.o x, HE6.o];constructor
 · rintro ⟨q | rfl, hne⟩
   · exact .inl q
   exact absurd rfl hne
 rintro (⟨q1, q2⟩ | ⟨q1, _⟩)
 · exact ⟨.inl ⟨q1, q2⟩, q2⟩
 exact absurd hz0 q1
end Go.Proofs.YtdkejfjcchlnpaaGreat.Ct
