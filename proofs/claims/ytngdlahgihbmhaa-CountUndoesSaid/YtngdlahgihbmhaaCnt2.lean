/-
  The walks of package count: a count, an addition.
-/
import Derived.Test.YtngdlahgihbmhaaCnt
import Derived.Test.YtngdlahgihbmhaaEff4
namespace Go.Proofs.Ytngdlahgihbmhaa
open Go.RowKit Go.Ox
set_option linter.unusedVariables false
set_option linter.unusedSimpArgs false

theorem boxP (w : World) (a b c d : Value) : ((w.alloc (.cells #[a, b] 30)).alloc (.cells #[c, d] 32)).cell? ⟨w.heap.size, 0, none⟩ = some a ∧ ((w.alloc (.cells #[a, b] 30)).alloc (.cells #[c, d] 32)).cell? ⟨w.heap.size, 1, none⟩ = some b ∧
    ((w.alloc (.cells #[a, b] 30)).alloc (.cells #[c, d] 32)).cell? ⟨w.heap.size + 1, 0, none⟩ = some c ∧ ((w.alloc (.cells #[a, b] 30)).alloc (.cells #[c, d] 32)).cell? ⟨w.heap.size + 1, 1, none⟩ = some d :=
  boxes2 w _ _ a b c d

set_option maxRecDepth 100000 in
set_option maxHeartbeats 1000000 in
theorem of_any (w : World) (g b : Nat) (L : List Cnt.S) (h : CM w g b L) (k : Cnt.K) :
    Calls Try.prog 12 #[.pointer (some ⟨g, 0, none⟩), pV2 k.1, pV2 k.2] w fun e w' => e = .returned (vI (Cnt.was L k)) ∧ Ext w w' := by
  obtain ⟨⟨k1, k2⟩, k3, k4⟩ := k
  dsimp only
  obtain ⟨c1, c2, c3, c4⟩ := boxP w (.int .i64 k1) (.int .i64 k2) (.int .i64 k3) (.int .i64 k4)
  have hx : Ext w ((w.alloc (.cells #[.int .i64 k1, .int .i64 k2] 30)).alloc (.cells #[.int .i64 k3, .int .i64 k4] 32)) := ((Ext.refl _).alloc _).alloc _
  have HX := Lib.hid hx
  have HC := Lib.hid (h.ext hx)
  have HM := Lib.hid (fun w h => made_any w g b L h)
  have c0 : ((w.alloc (.cells #[.int .i64 k1, .int .i64 k2] 30)).alloc (.cells #[.int .i64 k3, .int .i64 k4] 32)).cell? ⟨g, 0, none⟩ = some (.map (some b)) := (h.ext hx).box.cell 0
  clear h hx
  go_enter Try.func12, Try.ntmps12
  go_wp2_with fail
  refine (HM.out _ HC.out).mono ?_
  rintro e w1 ⟨rfl, rfl⟩
  go_wp2
  refine wp_region_ext (by kernel_rfl) (by rfl) (by rfl) (by kernel_rfl) ?_
  repeat (first | ((first | (refine wpM_move00 Ext.refl rfl rfl rfl ?_) | (refine wpM_move01 Ext.refl rfl rfl rfl rfl ?_)); apply Exists.intro; refine ⟨?_, ?_⟩; · (go_simp; rfl)) | (first | (refine wpM_movek0 Ext.refl rfl rfl rfl ?_) | (refine wpM_movek1 Ext.refl rfl rfl rfl rfl ?_)) | ((first | (refine wpM_val0 Ext.refl rfl ?_) | (refine wpM_val1 Ext.refl rfl rfl ?_)); apply Exists.intro; refine ⟨?_, ?_⟩; · (intro a w' hR; intro h1; (first | (have e1 : _ = _ := h1) | skip); intro h2; (first | (have e2 : _ = _ := h2) | skip); go_simp; rfl)) | ((first | (refine wpM_val0 Ext.refl rfl ?_) | (refine wpM_val1 Ext.refl rfl rfl ?_)); apply Exists.intro; refine ⟨?_, ?_⟩; · (intro a w' hR; intro h1; (first | (have e1 : _ = _ := h1) | skip); go_simp; rfl)) | ((first | (refine wpM_val0 Ext.refl rfl ?_) | (refine wpM_val1 Ext.refl rfl rfl ?_)); apply Exists.intro; refine ⟨?_, ?_⟩; · (intro a w' hR; go_simp; rfl)) | ((first | (refine wpM_val0 Ext.refl rfl ?_) | (refine wpM_val1 Ext.refl rfl rfl ?_)); apply Exists.intro; refine ⟨?_, ?_⟩; · (intro a w' hR; intro h1; (first | (have e1 : _ = _ := h1) | skip); intro h2; (first | (have e2 : _ = _ := h2) | skip); intro h3; (first | (have e3 : _ = _ := h3) | skip); go_simp; rfl)) | (refine wpM_skip1 rfl ?_))
  (first | (refine wpM_val0 Ext.refl rfl ?_) | (refine wpM_val1 Ext.refl rfl rfl ?_)); apply Exists.intro; refine ⟨?_, ?_⟩
  · intro a w' hR h1
    have e1 : _ = _ := h1
    have hl0 := hR.cell c0
    have hl1 := hR.cell c1
    have hl2 := hR.cell c2
    have hl3 := hR.cell c3
    have hl4 := hR.cell c4
    go_simp
    rfl
  (first | (refine wpM_val0 Ext.refl rfl ?_) | (refine wpM_val1 Ext.refl rfl rfl ?_)); apply Exists.intro; refine ⟨?_, ?_⟩
  · intro a w' hR h1
    have e1 : _ = _ := h1
    have hl0 := hR.cell c0
    have hl1 := hR.cell c1
    have hl2 := hR.cell c2
    have hl3 := hR.cell c3
    have hl4 := hR.cell c4
    go_simp
    rfl
  (first | (refine wpM_val0 Ext.refl rfl ?_) | (refine wpM_val1 Ext.refl rfl rfl ?_)); apply Exists.intro; refine ⟨?_, ?_⟩
  · intro a w' hR h1
    have e1 : _ = _ := h1
    have hl0 := hR.cell c0
    have hl1 := hR.cell c1
    have hl2 := hR.cell c2
    have hl3 := hR.cell c3
    have hl4 := hR.cell c4
    go_simp
    rfl
  (first | (refine wpM_val0 Ext.refl rfl ?_) | (refine wpM_val1 Ext.refl rfl rfl ?_)); apply Exists.intro; refine ⟨?_, ?_⟩
  · intro a w' hR h1 h2
    have e1 : _ = _ := h1
    have e2 : _ = _ := h2
    have q1 := e1; rw [Array.getD_eq_getD_getElem?] at q1
    have q2 := e2; rw [Array.getD_eq_getD_getElem?] at q2
    go_simp
    rfl
  (first | (refine wpM_val0 Ext.refl rfl ?_) | (refine wpM_val1 Ext.refl rfl rfl ?_)); apply Exists.intro; refine ⟨?_, ?_⟩
  · intro a w' hR h1 h2
    have e1 : _ = _ := h1
    have e2 : _ = _ := h2
    have hl := (HC.out.ext hR).look ((k1, k2), k3, k4)
    go_simp
    rfl
  repeat (first | ((first | (refine wpM_move00 Ext.refl rfl rfl rfl ?_) | (refine wpM_move01 Ext.refl rfl rfl rfl rfl ?_)); apply Exists.intro; refine ⟨?_, ?_⟩; · (go_simp; rfl)) | (first | (refine wpM_movek0 Ext.refl rfl rfl rfl ?_) | (refine wpM_movek1 Ext.refl rfl rfl rfl rfl ?_)) | ((first | (refine wpM_val0 Ext.refl rfl ?_) | (refine wpM_val1 Ext.refl rfl rfl ?_)); apply Exists.intro; refine ⟨?_, ?_⟩; · (intro a w' hR; intro h1; (first | (have e1 : _ = _ := h1) | skip); intro h2; (first | (have e2 : _ = _ := h2) | skip); go_simp; rfl)) | ((first | (refine wpM_val0 Ext.refl rfl ?_) | (refine wpM_val1 Ext.refl rfl rfl ?_)); apply Exists.intro; refine ⟨?_, ?_⟩; · (intro a w' hR; intro h1; (first | (have e1 : _ = _ := h1) | skip); go_simp; rfl)) | ((first | (refine wpM_val0 Ext.refl rfl ?_) | (refine wpM_val1 Ext.refl rfl rfl ?_)); apply Exists.intro; refine ⟨?_, ?_⟩; · (intro a w' hR; go_simp; rfl)) | ((first | (refine wpM_val0 Ext.refl rfl ?_) | (refine wpM_val1 Ext.refl rfl rfl ?_)); apply Exists.intro; refine ⟨?_, ?_⟩; · (intro a w' hR; intro h1; (first | (have e1 : _ = _ := h1) | skip); intro h2; (first | (have e2 : _ = _ := h2) | skip); intro h3; (first | (have e3 : _ = _ := h3) | skip); go_simp; rfl)) | (refine wpM_skip1 rfl ?_))
  refine wpM_done ?_
  intro w5 hx5
  iterate 9 (rintro _ rfl)
  dsimp only [FinV]
  go_simp
  go_wp2
  go_ret
  exact ⟨rfl, HX.out.trans hx5⟩
set_option maxRecDepth 100000 in
set_option maxHeartbeats 400000 in
theorem of_nil (w : World) (k : Cnt.K) :
    Calls Try.prog 12 #[.pointer none, pV2 k.1, pV2 k.2] w fun e w' => e = .returned (vI 0) ∧ Ext w w' := by
  obtain ⟨⟨k1, k2⟩, k3, k4⟩ := k
  dsimp only
  go_enter Try.func12, Try.ntmps12
  go_wp2_with fail
  refine (made_nil _).mono ?_
  rintro e w1 ⟨rfl, rfl⟩
  go_wp2
  go_ret
  exact ⟨rfl, ((Ext.refl _).alloc _).alloc _⟩

theorem CM.put {w : World} {g b : Nat} {L : List Cnt.S} (h : CM w g b L) (k : Cnt.K) (n : Int) :
    ∃ w' l', (Instr.mapUpdate 47 (.map (some b)) (kV k) (vI n)).run Try.prog w = .ok () w' ∧ ExtM b w w' ∧ MapE kV vI w' b l' ∧ ∀ x, x ∈ l' ↔ (x ∈ L ∧ x.1 ≠ k) ∨ x = (k, n) := by
  obtain ⟨l, h1, h2⟩ := h.map
  obtain ⟨w', l', h3, h4, h5, h6⟩ := h1.run_put keyK Try.underlying47 k n
  exact ⟨w', l', h3, h5, h4, fun x => by rw [h6, h2]⟩
theorem CM.done {w w' : World} {g b : Nat} {L : List Cnt.S} (h : CM w g b L) (hx : ExtM b w w') {l' : List Cnt.S} (hm : MapE kV vI w' b l') {k : Cnt.K} {n : Int} (h0 : 0 ≤ n) (h1 : n ≤ 1073741824)
    (hmem : ∀ x, x ∈ l' ↔ (x ∈ L ∧ x.1 ≠ k) ∨ (n ≠ 0 ∧ x = (k, n))) : CM w' g b (Cnt.rput L (k, n)) :=
  ⟨h.box.extM hx h.ne, h.ne, ⟨l', hm, fun x => by rw [hmem, (Cnt.rput_spec h.good.asc (k, n)).2 x]⟩, Cnt.rput_good h.good _ h0 h1⟩

set_option maxRecDepth 100000 in
set_option maxHeartbeats 1000000 in
theorem add_nil (w : World) (k : Cnt.K) (n : Int) :
    Calls Try.prog 10 #[.pointer none, pV2 k.1, pV2 k.2, .int .i64 n] w fun e w' => e = .returned (.int .i64 6) ∧ Ext w w' := by
  obtain ⟨⟨k1, k2⟩, k3, k4⟩ := k
  dsimp only
  go_enter Try.func10, Try.ntmps10
  go_wp2_with fail
  refine (made_nil _).mono ?_
  rintro e w1 ⟨rfl, rfl⟩
  go_wp2
  go_ret
  exact ⟨rfl, ((Ext.refl _).alloc _).alloc _⟩
set_option maxRecDepth 100000 in
set_option maxHeartbeats 1000000 in
theorem add_bad (w : World) (g b : Nat) (L : List Cnt.S) (h : CM w g b L) (k : Cnt.K) (n : Int) (hk : Mom.ok k.2 = false) :
    Calls Try.prog 10 #[.pointer (some ⟨g, 0, none⟩), pV2 k.1, pV2 k.2, .int .i64 n] w fun e w' => e = .returned (.int .i64 40) ∧ Ext w w' := by
  obtain ⟨⟨k1, k2⟩, k3, k4⟩ := k
  dsimp only at *
  obtain ⟨c1, c2, c3, c4⟩ := boxP w (.int .i64 k1) (.int .i64 k2) (.int .i64 k3) (.int .i64 k4)
  have hx : Ext w ((w.alloc (.cells #[.int .i64 k1, .int .i64 k2] 30)).alloc (.cells #[.int .i64 k3, .int .i64 k4] 32)) := ((Ext.refl _).alloc _).alloc _
  have HX := Lib.hid hx
  have HC := Lib.hid (h.ext hx)
  have HM := Lib.hid (fun w h => made_any w g b L h)
  have HK := Lib.hid (fun w => check_any (k3, k4) w)
  rw [hk] at HK
  clear h hx hk
  go_enter Try.func10, Try.ntmps10
  go_wp2_with fail
  refine (HM.out _ HC.out).mono ?_
  rintro e w1 ⟨rfl, rfl⟩
  go_wp2_with fail
  refine (HK.out _).mono ?_
  rintro e w2 ⟨rfl, he2⟩
  go_wp2
  go_ret
  exact ⟨rfl, HX.out.trans he2⟩
set_option maxRecDepth 100000 in
set_option maxHeartbeats 4000000 in
theorem add_err (w : World) (g b : Nat) (L : List Cnt.S) (h : CM w g b L) (k : Cnt.K) (n : Int) (hk : Mom.ok k.2 = true) (hr : n < - Cnt.was L k ∨ 1073741824 - Cnt.was L k < n) :
    Calls Try.prog 10 #[.pointer (some ⟨g, 0, none⟩), pV2 k.1, pV2 k.2, .int .i64 n] w fun e w' => e = .returned (.int .i64 210) ∧ Ext w w' := by
  obtain ⟨⟨k1, k2⟩, k3, k4⟩ := k
  dsimp only at *
  obtain ⟨c1, c2, c3, c4⟩ := boxP w (.int .i64 k1) (.int .i64 k2) (.int .i64 k3) (.int .i64 k4)
  have hx : Ext w ((w.alloc (.cells #[.int .i64 k1, .int .i64 k2] 30)).alloc (.cells #[.int .i64 k3, .int .i64 k4] 32)) := ((Ext.refl _).alloc _).alloc _
  have HX := Lib.hid hx
  have HC := Lib.hid (h.ext hx)
  have HM := Lib.hid (fun w h => made_any w g b L h)
  have HK := Lib.hid (fun w => check_any (k3, k4) w)
  have HW := Lib.hid (fun (w : World) (h : CM w g b L) => h.look ((k1, k2), k3, k4))
  obtain ⟨z0, z1⟩ := Cnt.was_bounds h.good ((k1, k2), k3, k4)
  rw [hk] at HK
  clear hx hk
  generalize hz : Cnt.was L ((k1, k2), k3, k4) = z at *
  clear h
  go_enter Try.func10, Try.ntmps10
  go_wp2_with fail
  refine (HM.out _ HC.out).mono ?_
  rintro e w1 ⟨rfl, rfl⟩
  go_wp2_with fail
  refine (HK.out _).mono ?_
  rintro e w2 ⟨rfl, he2⟩
  have HX2 := Lib.hid (HX.out.trans he2)
  have HC2 := Lib.hid (HC.out.ext he2)
  have c1 := he2.cell c1
  have c2 := he2.cell c2
  have c3 := he2.cell c3
  have c4 := he2.cell c4
  clear he2 HX HC
  go_wp2
  have hn := Blk.new w2 52 #[.int .i64 k1, .int .i64 k2, .int .i64 k3, .int .i64 k4]
  have hx3 : Ext w2 (w2.alloc (.cells #[.int .i64 k1, .int .i64 k2, .int .i64 k3, .int .i64 k4] 52)) := (Ext.refl _).alloc _
  have HX3 := Lib.hid (HX2.out.trans hx3)
  have HC3 := Lib.hid (HC2.out.ext hx3)
  clear c1 c2 c3 c4 HX2 hx3
  generalize hw3 : w2.alloc (.cells #[.int .i64 k1, .int .i64 k2, .int .i64 k3, .int .i64 k4] 52) = w3 at *
  have c0 : w3.cell? ⟨g, 0, none⟩ = some (.map (some b)) := HC3.out.box.cell 0
  have c1 : w3.cell? ⟨w2.heap.size, 0, none⟩ = some (.int .i64 k1) := hn.cell 0
  have c2 : w3.cell? ⟨w2.heap.size, 1, none⟩ = some (.int .i64 k2) := hn.cell 1
  have c3 : w3.cell? ⟨w2.heap.size, 2, none⟩ = some (.int .i64 k3) := hn.cell 2
  have c4 : w3.cell? ⟨w2.heap.size, 3, none⟩ = some (.int .i64 k4) := hn.cell 3
  clear hn
  generalize w2.heap.size = nk at *
  refine wp_region_ext (by kernel_rfl) (by rfl) (by rfl) (by kernel_rfl) ?_
  repeat (first | ((first | (refine wpM_move00 Ext.refl rfl rfl rfl ?_) | (refine wpM_move01 Ext.refl rfl rfl rfl rfl ?_)); apply Exists.intro; refine ⟨?_, ?_⟩; · (go_simp; rfl)) | (first | (refine wpM_movek0 Ext.refl rfl rfl rfl ?_) | (refine wpM_movek1 Ext.refl rfl rfl rfl rfl ?_)) | ((first | (refine wpM_val0 Ext.refl rfl ?_) | (refine wpM_val1 Ext.refl rfl rfl ?_)); apply Exists.intro; refine ⟨?_, ?_⟩; · (intro a w' hR; intro h1; (first | (have e1 : _ = _ := h1) | skip); intro h2; (first | (have e2 : _ = _ := h2) | skip); go_simp; rfl)) | ((first | (refine wpM_val0 Ext.refl rfl ?_) | (refine wpM_val1 Ext.refl rfl rfl ?_)); apply Exists.intro; refine ⟨?_, ?_⟩; · (intro a w' hR; intro h1; (first | (have e1 : _ = _ := h1) | skip); go_simp; rfl)) | ((first | (refine wpM_val0 Ext.refl rfl ?_) | (refine wpM_val1 Ext.refl rfl rfl ?_)); apply Exists.intro; refine ⟨?_, ?_⟩; · (intro a w' hR; go_simp; rfl)) | ((first | (refine wpM_val0 Ext.refl rfl ?_) | (refine wpM_val1 Ext.refl rfl rfl ?_)); apply Exists.intro; refine ⟨?_, ?_⟩; · (intro a w' hR; intro h1; (first | (have e1 : _ = _ := h1) | skip); intro h2; (first | (have e2 : _ = _ := h2) | skip); intro h3; (first | (have e3 : _ = _ := h3) | skip); go_simp; rfl)) | (refine wpM_skip1 rfl ?_))
  (first | (refine wpM_val0 Ext.refl rfl ?_) | (refine wpM_val1 Ext.refl rfl rfl ?_)); apply Exists.intro; refine ⟨?_, ?_⟩
  · intro a w' hR h1
    have e1 : _ = _ := h1
    have hl0 := hR.cell c0
    have hl1 := hR.cell c1
    have hl2 := hR.cell c2
    have hl3 := hR.cell c3
    have hl4 := hR.cell c4
    go_simp
    rfl
  (first | (refine wpM_val0 Ext.refl rfl ?_) | (refine wpM_val1 Ext.refl rfl rfl ?_)); apply Exists.intro; refine ⟨?_, ?_⟩
  · intro a w' hR h1
    have e1 : _ = _ := h1
    have hl0 := hR.cell c0
    have hl1 := hR.cell c1
    have hl2 := hR.cell c2
    have hl3 := hR.cell c3
    have hl4 := hR.cell c4
    go_simp
    rfl
  (first | (refine wpM_val0 Ext.refl rfl ?_) | (refine wpM_val1 Ext.refl rfl rfl ?_)); apply Exists.intro; refine ⟨?_, ?_⟩
  · intro a w' hR h1 h2
    have e1 : _ = _ := h1
    have e2 : _ = _ := h2
    have hl := HW.out w' (HC3.out.ext hR)
    go_simp
    rfl
  repeat (first | ((first | (refine wpM_move00 Ext.refl rfl rfl rfl ?_) | (refine wpM_move01 Ext.refl rfl rfl rfl rfl ?_)); apply Exists.intro; refine ⟨?_, ?_⟩; · (go_simp; rfl)) | (first | (refine wpM_movek0 Ext.refl rfl rfl rfl ?_) | (refine wpM_movek1 Ext.refl rfl rfl rfl rfl ?_)) | ((first | (refine wpM_val0 Ext.refl rfl ?_) | (refine wpM_val1 Ext.refl rfl rfl ?_)); apply Exists.intro; refine ⟨?_, ?_⟩; · (intro a w' hR; intro h1; (first | (have e1 : _ = _ := h1) | skip); intro h2; (first | (have e2 : _ = _ := h2) | skip); go_simp; rfl)) | ((first | (refine wpM_val0 Ext.refl rfl ?_) | (refine wpM_val1 Ext.refl rfl rfl ?_)); apply Exists.intro; refine ⟨?_, ?_⟩; · (intro a w' hR; intro h1; (first | (have e1 : _ = _ := h1) | skip); go_simp; rfl)) | ((first | (refine wpM_val0 Ext.refl rfl ?_) | (refine wpM_val1 Ext.refl rfl rfl ?_)); apply Exists.intro; refine ⟨?_, ?_⟩; · (intro a w' hR; go_simp; rfl)) | ((first | (refine wpM_val0 Ext.refl rfl ?_) | (refine wpM_val1 Ext.refl rfl rfl ?_)); apply Exists.intro; refine ⟨?_, ?_⟩; · (intro a w' hR; intro h1; (first | (have e1 : _ = _ := h1) | skip); intro h2; (first | (have e2 : _ = _ := h2) | skip); intro h3; (first | (have e3 : _ = _ := h3) | skip); go_simp; rfl)) | (refine wpM_skip1 rfl ?_))
  refine wpM_done ?_
  intro w4 hx4
  iterate 7 (rintro _ rfl)
  dsimp only [FinV]
  go_simp
  have HX4 := Lib.hid (HX3.out.trans hx4)
  have HC4 := Lib.hid (HC3.out.ext hx4)
  have c0 := hx4.cell c0
  have c1 := hx4.cell c1
  have c2 := hx4.cell c2
  have c3 := hx4.cell c3
  have c4 := hx4.cell c4
  clear hx4 HX3 HC3
  rcases hr with hr | hr
  · go_wp2
    go_ret
    exact ⟨rfl, HX4.out⟩
  · have hr2 : ¬ n < -z := by omega
    go_wp2
    go_ret
    exact ⟨rfl, HX4.out⟩
set_option maxRecDepth 100000 in
set_option maxHeartbeats 4000000 in
theorem add_ok (w : World) (g b : Nat) (L : List Cnt.S) (h : CM w g b L) (k : Cnt.K) (n : Int) (hk : Mom.ok k.2 = true) (hr : - Cnt.was L k ≤ n) (hr2 : n ≤ 1073741824 - Cnt.was L k) (hz0 : Cnt.was L k + n ≠ 0) :
    Calls Try.prog 10 #[.pointer (some ⟨g, 0, none⟩), pV2 k.1, pV2 k.2, .int .i64 n] w fun e w' => e = .returned (.int .i64 0) ∧ CM w' g b (Cnt.rput L (k, Cnt.was L k + n)) ∧ ∃ w1, Ext w w1 ∧ ExtM b w1 w' := by
  obtain ⟨⟨k1, k2⟩, k3, k4⟩ := k
  dsimp only at *
  obtain ⟨c1, c2, c3, c4⟩ := boxP w (.int .i64 k1) (.int .i64 k2) (.int .i64 k3) (.int .i64 k4)
  have hx : Ext w ((w.alloc (.cells #[.int .i64 k1, .int .i64 k2] 30)).alloc (.cells #[.int .i64 k3, .int .i64 k4] 32)) := ((Ext.refl _).alloc _).alloc _
  have HX := Lib.hid hx
  have HC := Lib.hid (h.ext hx)
  have HM := Lib.hid (fun w h => made_any w g b L h)
  have HK := Lib.hid (fun w => check_any (k3, k4) w)
  have HW := Lib.hid (fun (w : World) (h : CM w g b L) => h.look ((k1, k2), k3, k4))
  obtain ⟨z0, z1⟩ := Cnt.was_bounds h.good ((k1, k2), k3, k4)
  rw [hk] at HK
  clear hx hk
  generalize hz : Cnt.was L ((k1, k2), k3, k4) = z at *
  have HDN := Lib.hid (fun (w w' : World) (h : CM w g b L) (hx : ExtM b w w') (l' : List Cnt.S) (hm : MapE kV vI w' b l') (hmem : ∀ x, x ∈ l' ↔ (x ∈ L ∧ x.1 ≠ ((k1, k2), k3, k4)) ∨ (z + n ≠ 0 ∧ x = (((k1, k2), k3, k4), z + n))) => h.done hx hm (by omega) (by omega) hmem)
  clear h
  go_enter Try.func10, Try.ntmps10
  go_wp2_with fail
  refine (HM.out _ HC.out).mono ?_
  rintro e w1 ⟨rfl, rfl⟩
  go_wp2_with fail
  refine (HK.out _).mono ?_
  rintro e w2 ⟨rfl, he2⟩
  have HX2 := Lib.hid (HX.out.trans he2)
  have HC2 := Lib.hid (HC.out.ext he2)
  have c1 := he2.cell c1
  have c2 := he2.cell c2
  have c3 := he2.cell c3
  have c4 := he2.cell c4
  clear he2 HX HC
  go_wp2
  have hn := Blk.new w2 52 #[.int .i64 k1, .int .i64 k2, .int .i64 k3, .int .i64 k4]
  have hx3 : Ext w2 (w2.alloc (.cells #[.int .i64 k1, .int .i64 k2, .int .i64 k3, .int .i64 k4] 52)) := (Ext.refl _).alloc _
  have HX3 := Lib.hid (HX2.out.trans hx3)
  have HC3 := Lib.hid (HC2.out.ext hx3)
  clear c1 c2 c3 c4 HX2 hx3
  generalize hw3 : w2.alloc (.cells #[.int .i64 k1, .int .i64 k2, .int .i64 k3, .int .i64 k4] 52) = w3 at *
  have c0 : w3.cell? ⟨g, 0, none⟩ = some (.map (some b)) := HC3.out.box.cell 0
  have c1 : w3.cell? ⟨w2.heap.size, 0, none⟩ = some (.int .i64 k1) := hn.cell 0
  have c2 : w3.cell? ⟨w2.heap.size, 1, none⟩ = some (.int .i64 k2) := hn.cell 1
  have c3 : w3.cell? ⟨w2.heap.size, 2, none⟩ = some (.int .i64 k3) := hn.cell 2
  have c4 : w3.cell? ⟨w2.heap.size, 3, none⟩ = some (.int .i64 k4) := hn.cell 3
  clear hn
  generalize w2.heap.size = nk at *
  refine wp_region_ext (by kernel_rfl) (by rfl) (by rfl) (by kernel_rfl) ?_
  repeat (first | ((first | (refine wpM_move00 Ext.refl rfl rfl rfl ?_) | (refine wpM_move01 Ext.refl rfl rfl rfl rfl ?_)); apply Exists.intro; refine ⟨?_, ?_⟩; · (go_simp; rfl)) | (first | (refine wpM_movek0 Ext.refl rfl rfl rfl ?_) | (refine wpM_movek1 Ext.refl rfl rfl rfl rfl ?_)) | ((first | (refine wpM_val0 Ext.refl rfl ?_) | (refine wpM_val1 Ext.refl rfl rfl ?_)); apply Exists.intro; refine ⟨?_, ?_⟩; · (intro a w' hR; intro h1; (first | (have e1 : _ = _ := h1) | skip); intro h2; (first | (have e2 : _ = _ := h2) | skip); go_simp; rfl)) | ((first | (refine wpM_val0 Ext.refl rfl ?_) | (refine wpM_val1 Ext.refl rfl rfl ?_)); apply Exists.intro; refine ⟨?_, ?_⟩; · (intro a w' hR; intro h1; (first | (have e1 : _ = _ := h1) | skip); go_simp; rfl)) | ((first | (refine wpM_val0 Ext.refl rfl ?_) | (refine wpM_val1 Ext.refl rfl rfl ?_)); apply Exists.intro; refine ⟨?_, ?_⟩; · (intro a w' hR; go_simp; rfl)) | ((first | (refine wpM_val0 Ext.refl rfl ?_) | (refine wpM_val1 Ext.refl rfl rfl ?_)); apply Exists.intro; refine ⟨?_, ?_⟩; · (intro a w' hR; intro h1; (first | (have e1 : _ = _ := h1) | skip); intro h2; (first | (have e2 : _ = _ := h2) | skip); intro h3; (first | (have e3 : _ = _ := h3) | skip); go_simp; rfl)) | (refine wpM_skip1 rfl ?_))
  (first | (refine wpM_val0 Ext.refl rfl ?_) | (refine wpM_val1 Ext.refl rfl rfl ?_)); apply Exists.intro; refine ⟨?_, ?_⟩
  · intro a w' hR h1
    have e1 : _ = _ := h1
    have hl0 := hR.cell c0
    have hl1 := hR.cell c1
    have hl2 := hR.cell c2
    have hl3 := hR.cell c3
    have hl4 := hR.cell c4
    go_simp
    rfl
  (first | (refine wpM_val0 Ext.refl rfl ?_) | (refine wpM_val1 Ext.refl rfl rfl ?_)); apply Exists.intro; refine ⟨?_, ?_⟩
  · intro a w' hR h1
    have e1 : _ = _ := h1
    have hl0 := hR.cell c0
    have hl1 := hR.cell c1
    have hl2 := hR.cell c2
    have hl3 := hR.cell c3
    have hl4 := hR.cell c4
    go_simp
    rfl
  (first | (refine wpM_val0 Ext.refl rfl ?_) | (refine wpM_val1 Ext.refl rfl rfl ?_)); apply Exists.intro; refine ⟨?_, ?_⟩
  · intro a w' hR h1 h2
    have e1 : _ = _ := h1
    have e2 : _ = _ := h2
    have hl := HW.out w' (HC3.out.ext hR)
    go_simp
    rfl
  repeat (first | ((first | (refine wpM_move00 Ext.refl rfl rfl rfl ?_) | (refine wpM_move01 Ext.refl rfl rfl rfl rfl ?_)); apply Exists.intro; refine ⟨?_, ?_⟩; · (go_simp; rfl)) | (first | (refine wpM_movek0 Ext.refl rfl rfl rfl ?_) | (refine wpM_movek1 Ext.refl rfl rfl rfl rfl ?_)) | ((first | (refine wpM_val0 Ext.refl rfl ?_) | (refine wpM_val1 Ext.refl rfl rfl ?_)); apply Exists.intro; refine ⟨?_, ?_⟩; · (intro a w' hR; intro h1; (first | (have e1 : _ = _ := h1) | skip); intro h2; (first | (have e2 : _ = _ := h2) | skip); go_simp; rfl)) | ((first | (refine wpM_val0 Ext.refl rfl ?_) | (refine wpM_val1 Ext.refl rfl rfl ?_)); apply Exists.intro; refine ⟨?_, ?_⟩; · (intro a w' hR; intro h1; (first | (have e1 : _ = _ := h1) | skip); go_simp; rfl)) | ((first | (refine wpM_val0 Ext.refl rfl ?_) | (refine wpM_val1 Ext.refl rfl rfl ?_)); apply Exists.intro; refine ⟨?_, ?_⟩; · (intro a w' hR; go_simp; rfl)) | ((first | (refine wpM_val0 Ext.refl rfl ?_) | (refine wpM_val1 Ext.refl rfl rfl ?_)); apply Exists.intro; refine ⟨?_, ?_⟩; · (intro a w' hR; intro h1; (first | (have e1 : _ = _ := h1) | skip); intro h2; (first | (have e2 : _ = _ := h2) | skip); intro h3; (first | (have e3 : _ = _ := h3) | skip); go_simp; rfl)) | (refine wpM_skip1 rfl ?_))
  refine wpM_done ?_
  intro w4 hx4
  iterate 7 (rintro _ rfl)
  dsimp only [FinV]
  go_simp
  have HX4 := Lib.hid (HX3.out.trans hx4)
  have HC4 := Lib.hid (HC3.out.ext hx4)
  have c0 := hx4.cell c0
  have c1 := hx4.cell c1
  have c2 := hx4.cell c2
  have c3 := hx4.cell c3
  have c4 := hx4.cell c4
  clear hx4 HX3 HC3
  have g1 : ¬ n < -z := by omega
  have g2 : ¬ 1073741824 - z < n := by omega
  have g3 : (z + n == 0) = false := by simpa using hz0
  go_wp2
  refine wp_region_tailY 8 [] [] Ext Ext (fun _ => True) (by kernel_rfl) (by kernel_rfl) (by kernel_rfl) (by kernel_rfl) (by kernel_rfl) (by kernel_rfl) (by kernel_rfl) (by rfl) (by rfl) (by kernel_rfl) (by kernel_rfl) (by kernel_rfl) (fun _ _ _ x y => x.trans y) Ext.refl (fun _ _ x => x) (Ext.refl _).drew (fun _ _ x _ => x) trivial ?_
  repeat (first | (refine wpY_move0 rfl rfl (by first | exact runs0 | exact runs1 rfl) Ext.refl rfl rfl rfl ?_; apply Exists.intro; refine ⟨?_, ?_⟩; · (go_simp; rfl)) | (refine wpY_move rfl rfl (by first | exact runs0 | exact runs1 rfl) Ext.refl rfl rfl rfl (fun _ _ _ h _ => h) ?_) | (refine wpY_val rfl rfl (by first | exact runs0 | exact runs1 rfl) Ext.refl rfl ?_; apply Exists.intro; refine ⟨?_, ?_⟩; · (intro a w' hR; intro h1; (first | (have e1 : _ = _ := h1) | skip); intro h2; (first | (have e2 : _ = _ := h2) | skip); go_simp; rfl)) | (refine wpY_val rfl rfl (by first | exact runs0 | exact runs1 rfl) Ext.refl rfl ?_; apply Exists.intro; refine ⟨?_, ?_⟩; · (intro a w' hR; intro h1; (first | (have e1 : _ = _ := h1) | skip); go_simp; rfl)) | (refine wpY_val rfl rfl (by first | exact runs0 | exact runs1 rfl) Ext.refl rfl ?_; apply Exists.intro; refine ⟨?_, ?_⟩; · (intro a w' hR; go_simp; rfl)) | (refine wpY_val rfl rfl (by first | exact runs0 | exact runs1 rfl) Ext.refl rfl ?_; apply Exists.intro; refine ⟨?_, ?_⟩; · (intro a w' hR; intro h1; (first | (have e1 : _ = _ := h1) | skip); intro h2; (first | (have e2 : _ = _ := h2) | skip); intro h3; (first | (have e3 : _ = _ := h3) | skip); go_simp; rfl)) | (refine wpY_skip rfl rfl (by first | exact .inl rfl | exact .inr rfl) ?_))
  refine wpY_val rfl rfl (by first | exact runs0 | exact runs1 rfl) Ext.refl rfl ?_; apply Exists.intro; refine ⟨?_, ?_⟩
  · intro a w' hR h1
    have e1 : _ = _ := h1
    have hl0 := hR.cell c0
    have hl1 := hR.cell c1
    have hl2 := hR.cell c2
    have hl3 := hR.cell c3
    have hl4 := hR.cell c4
    go_simp
    rfl
  refine wpY_val rfl rfl (by first | exact runs0 | exact runs1 rfl) Ext.refl rfl ?_; apply Exists.intro; refine ⟨?_, ?_⟩
  · intro a w' hR h1
    have e1 : _ = _ := h1
    have hl0 := hR.cell c0
    have hl1 := hR.cell c1
    have hl2 := hR.cell c2
    have hl3 := hR.cell c3
    have hl4 := hR.cell c4
    go_simp
    rfl
  repeat (first | (refine wpY_move0 rfl rfl (by first | exact runs0 | exact runs1 rfl) Ext.refl rfl rfl rfl ?_; apply Exists.intro; refine ⟨?_, ?_⟩; · (go_simp; rfl)) | (refine wpY_move rfl rfl (by first | exact runs0 | exact runs1 rfl) Ext.refl rfl rfl rfl (fun _ _ _ h _ => h) ?_) | (refine wpY_val rfl rfl (by first | exact runs0 | exact runs1 rfl) Ext.refl rfl ?_; apply Exists.intro; refine ⟨?_, ?_⟩; · (intro a w' hR; intro h1; (first | (have e1 : _ = _ := h1) | skip); intro h2; (first | (have e2 : _ = _ := h2) | skip); go_simp; rfl)) | (refine wpY_val rfl rfl (by first | exact runs0 | exact runs1 rfl) Ext.refl rfl ?_; apply Exists.intro; refine ⟨?_, ?_⟩; · (intro a w' hR; intro h1; (first | (have e1 : _ = _ := h1) | skip); go_simp; rfl)) | (refine wpY_val rfl rfl (by first | exact runs0 | exact runs1 rfl) Ext.refl rfl ?_; apply Exists.intro; refine ⟨?_, ?_⟩; · (intro a w' hR; go_simp; rfl)) | (refine wpY_val rfl rfl (by first | exact runs0 | exact runs1 rfl) Ext.refl rfl ?_; apply Exists.intro; refine ⟨?_, ?_⟩; · (intro a w' hR; intro h1; (first | (have e1 : _ = _ := h1) | skip); intro h2; (first | (have e2 : _ = _ := h2) | skip); intro h3; (first | (have e3 : _ = _ := h3) | skip); go_simp; rfl)) | (refine wpY_skip rfl rfl (by first | exact .inl rfl | exact .inr rfl) ?_))
  refine wpY_done ?_
  intro w5 hx5 hS5
  iterate 8 (rintro _ rfl)
  dsimp only [FinV]
  go_simp
  have HX5 := Lib.hid (HX4.out.trans hx5)
  have HC5 := Lib.hid (HC4.out.ext hx5)
  have c0 := hx5.cell c0
  have c1 := hx5.cell c1
  have c2 := hx5.cell c2
  have c3 := hx5.cell c3
  have c4 := hx5.cell c4
  clear hx5 HX4 HC4 hS5
  obtain ⟨w6, l6, hup, hx6, hm6, hmem6⟩ := HC5.out.put ((k1, k2), k3, k4) (z + n)
  dsimp only [kV, vI] at hup
  have HM6 := Lib.hid hm6
  have HE6 := Lib.hid hmem6
  have HX6 := Lib.hid hx6
  have c0 := hx6.cells _ _ c0
  have c1 := hx6.cells _ _ c1
  have c2 := hx6.cells _ _ c2
  have c3 := hx6.cells _ _ c3
  have c4 := hx6.cells _ _ c4
  clear hx6 hm6 hmem6
  simp only [thenTail, List.drop_succ_cons, List.drop_zero]
  go_wp2
  rw [hup]
  simp only [Result.andThen]
  rw [Oper.upon_skip]
  clear hup
  go_wp2
  go_ret
  exact ⟨rfl, HDN.out _ _ HC5.out HX6.out _ HM6.out (fun x => by rw [HE6.out]; simp [hz0]), w5, HX5.out, HX6.out⟩
set_option maxRecDepth 100000 in
set_option maxHeartbeats 4000000 in
theorem add_zero (w : World) (g b : Nat) (L : List Cnt.S) (h : CM w g b L) (k : Cnt.K) (n : Int) (hk : Mom.ok k.2 = true) (hr : - Cnt.was L k ≤ n) (hr2 : n ≤ 1073741824 - Cnt.was L k) (hz0 : Cnt.was L k + n = 0) :
    Calls Try.prog 10 #[.pointer (some ⟨g, 0, none⟩), pV2 k.1, pV2 k.2, .int .i64 n] w fun e w' => e = .returned (.int .i64 0) ∧ CM w' g b (Cnt.rput L (k, Cnt.was L k + n)) ∧ ∃ w1, Ext w w1 ∧ ExtM b w1 w' := by
  obtain ⟨⟨k1, k2⟩, k3, k4⟩ := k
  dsimp only at *
  obtain ⟨c1, c2, c3, c4⟩ := boxP w (.int .i64 k1) (.int .i64 k2) (.int .i64 k3) (.int .i64 k4)
  have hx : Ext w ((w.alloc (.cells #[.int .i64 k1, .int .i64 k2] 30)).alloc (.cells #[.int .i64 k3, .int .i64 k4] 32)) := ((Ext.refl _).alloc _).alloc _
  have HX := Lib.hid hx
  have HC := Lib.hid (h.ext hx)
  have HM := Lib.hid (fun w h => made_any w g b L h)
  have HK := Lib.hid (fun w => check_any (k3, k4) w)
  have HW := Lib.hid (fun (w : World) (h : CM w g b L) => h.look ((k1, k2), k3, k4))
  obtain ⟨z0, z1⟩ := Cnt.was_bounds h.good ((k1, k2), k3, k4)
  rw [hk] at HK
  clear hx hk
  generalize hz : Cnt.was L ((k1, k2), k3, k4) = z at *
  have HDN := Lib.hid (fun (w w' : World) (h : CM w g b L) (hx : ExtM b w w') (l' : List Cnt.S) (hm : MapE kV vI w' b l') (hmem : ∀ x, x ∈ l' ↔ (x ∈ L ∧ x.1 ≠ ((k1, k2), k3, k4)) ∨ (z + n ≠ 0 ∧ x = (((k1, k2), k3, k4), z + n))) => h.done hx hm (by omega) (by omega) hmem)
  clear h
  go_enter Try.func10, Try.ntmps10
  go_wp2_with fail
  refine (HM.out _ HC.out).mono ?_
  rintro e w1 ⟨rfl, rfl⟩
  go_wp2_with fail
  refine (HK.out _).mono ?_
  rintro e w2 ⟨rfl, he2⟩
  have HX2 := Lib.hid (HX.out.trans he2)
  have HC2 := Lib.hid (HC.out.ext he2)
  have c1 := he2.cell c1
  have c2 := he2.cell c2
  have c3 := he2.cell c3
  have c4 := he2.cell c4
  clear he2 HX HC
  go_wp2
  have hn := Blk.new w2 52 #[.int .i64 k1, .int .i64 k2, .int .i64 k3, .int .i64 k4]
  have hx3 : Ext w2 (w2.alloc (.cells #[.int .i64 k1, .int .i64 k2, .int .i64 k3, .int .i64 k4] 52)) := (Ext.refl _).alloc _
  have HX3 := Lib.hid (HX2.out.trans hx3)
  have HC3 := Lib.hid (HC2.out.ext hx3)
  clear c1 c2 c3 c4 HX2 hx3
  generalize hw3 : w2.alloc (.cells #[.int .i64 k1, .int .i64 k2, .int .i64 k3, .int .i64 k4] 52) = w3 at *
  have c0 : w3.cell? ⟨g, 0, none⟩ = some (.map (some b)) := HC3.out.box.cell 0
  have c1 : w3.cell? ⟨w2.heap.size, 0, none⟩ = some (.int .i64 k1) := hn.cell 0
  have c2 : w3.cell? ⟨w2.heap.size, 1, none⟩ = some (.int .i64 k2) := hn.cell 1
  have c3 : w3.cell? ⟨w2.heap.size, 2, none⟩ = some (.int .i64 k3) := hn.cell 2
  have c4 : w3.cell? ⟨w2.heap.size, 3, none⟩ = some (.int .i64 k4) := hn.cell 3
  clear hn
  generalize w2.heap.size = nk at *
  refine wp_region_ext (by kernel_rfl) (by rfl) (by rfl) (by kernel_rfl) ?_
  repeat (first | ((first | (refine wpM_move00 Ext.refl rfl rfl rfl ?_) | (refine wpM_move01 Ext.refl rfl rfl rfl rfl ?_)); apply Exists.intro; refine ⟨?_, ?_⟩; · (go_simp; rfl)) | (first | (refine wpM_movek0 Ext.refl rfl rfl rfl ?_) | (refine wpM_movek1 Ext.refl rfl rfl rfl rfl ?_)) | ((first | (refine wpM_val0 Ext.refl rfl ?_) | (refine wpM_val1 Ext.refl rfl rfl ?_)); apply Exists.intro; refine ⟨?_, ?_⟩; · (intro a w' hR; intro h1; (first | (have e1 : _ = _ := h1) | skip); intro h2; (first | (have e2 : _ = _ := h2) | skip); go_simp; rfl)) | ((first | (refine wpM_val0 Ext.refl rfl ?_) | (refine wpM_val1 Ext.refl rfl rfl ?_)); apply Exists.intro; refine ⟨?_, ?_⟩; · (intro a w' hR; intro h1; (first | (have e1 : _ = _ := h1) | skip); go_simp; rfl)) | ((first | (refine wpM_val0 Ext.refl rfl ?_) | (refine wpM_val1 Ext.refl rfl rfl ?_)); apply Exists.intro; refine ⟨?_, ?_⟩; · (intro a w' hR; go_simp; rfl)) | ((first | (refine wpM_val0 Ext.refl rfl ?_) | (refine wpM_val1 Ext.refl rfl rfl ?_)); apply Exists.intro; refine ⟨?_, ?_⟩; · (intro a w' hR; intro h1; (first | (have e1 : _ = _ := h1) | skip); intro h2; (first | (have e2 : _ = _ := h2) | skip); intro h3; (first | (have e3 : _ = _ := h3) | skip); go_simp; rfl)) | (refine wpM_skip1 rfl ?_))
  (first | (refine wpM_val0 Ext.refl rfl ?_) | (refine wpM_val1 Ext.refl rfl rfl ?_)); apply Exists.intro; refine ⟨?_, ?_⟩
  · intro a w' hR h1
    have e1 : _ = _ := h1
    have hl0 := hR.cell c0
    have hl1 := hR.cell c1
    have hl2 := hR.cell c2
    have hl3 := hR.cell c3
    have hl4 := hR.cell c4
    go_simp
    rfl
  (first | (refine wpM_val0 Ext.refl rfl ?_) | (refine wpM_val1 Ext.refl rfl rfl ?_)); apply Exists.intro; refine ⟨?_, ?_⟩
  · intro a w' hR h1
    have e1 : _ = _ := h1
    have hl0 := hR.cell c0
    have hl1 := hR.cell c1
    have hl2 := hR.cell c2
    have hl3 := hR.cell c3
    have hl4 := hR.cell c4
    go_simp
    rfl
  (first | (refine wpM_val0 Ext.refl rfl ?_) | (refine wpM_val1 Ext.refl rfl rfl ?_)); apply Exists.intro; refine ⟨?_, ?_⟩
  · intro a w' hR h1 h2
    have e1 : _ = _ := h1
    have e2 : _ = _ := h2
    have hl := HW.out w' (HC3.out.ext hR)
    go_simp
    rfl
  repeat (first | ((first | (refine wpM_move00 Ext.refl rfl rfl rfl ?_) | (refine wpM_move01 Ext.refl rfl rfl rfl rfl ?_)); apply Exists.intro; refine ⟨?_, ?_⟩; · (go_simp; rfl)) | (first | (refine wpM_movek0 Ext.refl rfl rfl rfl ?_) | (refine wpM_movek1 Ext.refl rfl rfl rfl rfl ?_)) | ((first | (refine wpM_val0 Ext.refl rfl ?_) | (refine wpM_val1 Ext.refl rfl rfl ?_)); apply Exists.intro; refine ⟨?_, ?_⟩; · (intro a w' hR; intro h1; (first | (have e1 : _ = _ := h1) | skip); intro h2; (first | (have e2 : _ = _ := h2) | skip); go_simp; rfl)) | ((first | (refine wpM_val0 Ext.refl rfl ?_) | (refine wpM_val1 Ext.refl rfl rfl ?_)); apply Exists.intro; refine ⟨?_, ?_⟩; · (intro a w' hR; intro h1; (first | (have e1 : _ = _ := h1) | skip); go_simp; rfl)) | ((first | (refine wpM_val0 Ext.refl rfl ?_) | (refine wpM_val1 Ext.refl rfl rfl ?_)); apply Exists.intro; refine ⟨?_, ?_⟩; · (intro a w' hR; go_simp; rfl)) | ((first | (refine wpM_val0 Ext.refl rfl ?_) | (refine wpM_val1 Ext.refl rfl rfl ?_)); apply Exists.intro; refine ⟨?_, ?_⟩; · (intro a w' hR; intro h1; (first | (have e1 : _ = _ := h1) | skip); intro h2; (first | (have e2 : _ = _ := h2) | skip); intro h3; (first | (have e3 : _ = _ := h3) | skip); go_simp; rfl)) | (refine wpM_skip1 rfl ?_))
  refine wpM_done ?_
  intro w4 hx4
  iterate 7 (rintro _ rfl)
  dsimp only [FinV]
  go_simp
  have HX4 := Lib.hid (HX3.out.trans hx4)
  have HC4 := Lib.hid (HC3.out.ext hx4)
  have c0 := hx4.cell c0
  have c1 := hx4.cell c1
  have c2 := hx4.cell c2
  have c3 := hx4.cell c3
  have c4 := hx4.cell c4
  clear hx4 HX3 HC3
  have g1 : ¬ n < -z := by omega
  have g2 : ¬ 1073741824 - z < n := by omega
  have g3 : (z + n == 0) = true := by simpa using hz0
  go_wp2
  refine wp_region_tailY 8 [] [] Ext Ext (fun _ => True) (by kernel_rfl) (by kernel_rfl) (by kernel_rfl) (by kernel_rfl) (by kernel_rfl) (by kernel_rfl) (by kernel_rfl) (by rfl) (by rfl) (by kernel_rfl) (by kernel_rfl) (by kernel_rfl) (fun _ _ _ x y => x.trans y) Ext.refl (fun _ _ x => x) (Ext.refl _).drew (fun _ _ x _ => x) trivial ?_
  repeat (first | (refine wpY_move0 rfl rfl (by first | exact runs0 | exact runs1 rfl) Ext.refl rfl rfl rfl ?_; apply Exists.intro; refine ⟨?_, ?_⟩; · (go_simp; rfl)) | (refine wpY_move rfl rfl (by first | exact runs0 | exact runs1 rfl) Ext.refl rfl rfl rfl (fun _ _ _ h _ => h) ?_) | (refine wpY_val rfl rfl (by first | exact runs0 | exact runs1 rfl) Ext.refl rfl ?_; apply Exists.intro; refine ⟨?_, ?_⟩; · (intro a w' hR; intro h1; (first | (have e1 : _ = _ := h1) | skip); intro h2; (first | (have e2 : _ = _ := h2) | skip); go_simp; rfl)) | (refine wpY_val rfl rfl (by first | exact runs0 | exact runs1 rfl) Ext.refl rfl ?_; apply Exists.intro; refine ⟨?_, ?_⟩; · (intro a w' hR; intro h1; (first | (have e1 : _ = _ := h1) | skip); go_simp; rfl)) | (refine wpY_val rfl rfl (by first | exact runs0 | exact runs1 rfl) Ext.refl rfl ?_; apply Exists.intro; refine ⟨?_, ?_⟩; · (intro a w' hR; go_simp; rfl)) | (refine wpY_val rfl rfl (by first | exact runs0 | exact runs1 rfl) Ext.refl rfl ?_; apply Exists.intro; refine ⟨?_, ?_⟩; · (intro a w' hR; intro h1; (first | (have e1 : _ = _ := h1) | skip); intro h2; (first | (have e2 : _ = _ := h2) | skip); intro h3; (first | (have e3 : _ = _ := h3) | skip); go_simp; rfl)) | (refine wpY_skip rfl rfl (by first | exact .inl rfl | exact .inr rfl) ?_))
  refine wpY_val rfl rfl (by first | exact runs0 | exact runs1 rfl) Ext.refl rfl ?_; apply Exists.intro; refine ⟨?_, ?_⟩
  · intro a w' hR h1
    have e1 : _ = _ := h1
    have hl0 := hR.cell c0
    have hl1 := hR.cell c1
    have hl2 := hR.cell c2
    have hl3 := hR.cell c3
    have hl4 := hR.cell c4
    go_simp
    rfl
  refine wpY_val rfl rfl (by first | exact runs0 | exact runs1 rfl) Ext.refl rfl ?_; apply Exists.intro; refine ⟨?_, ?_⟩
  · intro a w' hR h1
    have e1 : _ = _ := h1
    have hl0 := hR.cell c0
    have hl1 := hR.cell c1
    have hl2 := hR.cell c2
    have hl3 := hR.cell c3
    have hl4 := hR.cell c4
    go_simp
    rfl
  repeat (first | (refine wpY_move0 rfl rfl (by first | exact runs0 | exact runs1 rfl) Ext.refl rfl rfl rfl ?_; apply Exists.intro; refine ⟨?_, ?_⟩; · (go_simp; rfl)) | (refine wpY_move rfl rfl (by first | exact runs0 | exact runs1 rfl) Ext.refl rfl rfl rfl (fun _ _ _ h _ => h) ?_) | (refine wpY_val rfl rfl (by first | exact runs0 | exact runs1 rfl) Ext.refl rfl ?_; apply Exists.intro; refine ⟨?_, ?_⟩; · (intro a w' hR; intro h1; (first | (have e1 : _ = _ := h1) | skip); intro h2; (first | (have e2 : _ = _ := h2) | skip); go_simp; rfl)) | (refine wpY_val rfl rfl (by first | exact runs0 | exact runs1 rfl) Ext.refl rfl ?_; apply Exists.intro; refine ⟨?_, ?_⟩; · (intro a w' hR; intro h1; (first | (have e1 : _ = _ := h1) | skip); go_simp; rfl)) | (refine wpY_val rfl rfl (by first | exact runs0 | exact runs1 rfl) Ext.refl rfl ?_; apply Exists.intro; refine ⟨?_, ?_⟩; · (intro a w' hR; go_simp; rfl)) | (refine wpY_val rfl rfl (by first | exact runs0 | exact runs1 rfl) Ext.refl rfl ?_; apply Exists.intro; refine ⟨?_, ?_⟩; · (intro a w' hR; intro h1; (first | (have e1 : _ = _ := h1) | skip); intro h2; (first | (have e2 : _ = _ := h2) | skip); intro h3; (first | (have e3 : _ = _ := h3) | skip); go_simp; rfl)) | (refine wpY_skip rfl rfl (by first | exact .inl rfl | exact .inr rfl) ?_))
  refine wpY_done ?_
  intro w5 hx5 hS5
  iterate 8 (rintro _ rfl)
  dsimp only [FinV]
  go_simp
  have HX5 := Lib.hid (HX4.out.trans hx5)
  have HC5 := Lib.hid (HC4.out.ext hx5)
  have c0 := hx5.cell c0
  have c1 := hx5.cell c1
  have c2 := hx5.cell c2
  have c3 := hx5.cell c3
  have c4 := hx5.cell c4
  clear hx5 HX4 HC4 hS5
  obtain ⟨w6, l6, hup, hx6, hm6, hmem6⟩ := HC5.out.put ((k1, k2), k3, k4) (z + n)
  dsimp only [kV, vI] at hup
  rw [hz0] at hup
  have HM6 := Lib.hid hm6
  have HE6 := Lib.hid hmem6
  have HX6 := Lib.hid hx6
  have c0 := hx6.cells _ _ c0
  have c1 := hx6.cells _ _ c1
  have c2 := hx6.cells _ _ c2
  have c3 := hx6.cells _ _ c3
  have c4 := hx6.cells _ _ c4
  clear hx6 hm6 hmem6
  simp only [thenTail, List.drop_succ_cons, List.drop_zero]
  go_wp2
  rw [hup]
  simp only [Result.andThen]
  rw [Oper.upon_skip]
  clear hup
  go_wp2
  refine wp_region_tailY 5 [] [] Ext Ext (fun _ => True) (by kernel_rfl) (by kernel_rfl) (by kernel_rfl) (by kernel_rfl) (by kernel_rfl) (by kernel_rfl) (by kernel_rfl) (by rfl) (by rfl) (by kernel_rfl) (by kernel_rfl) (by kernel_rfl) (fun _ _ _ x y => x.trans y) Ext.refl (fun _ _ x => x) (Ext.refl _).drew (fun _ _ x _ => x) trivial ?_
  repeat (first | (refine wpY_move0 rfl rfl (by first | exact runs0 | exact runs1 rfl) Ext.refl rfl rfl rfl ?_; apply Exists.intro; refine ⟨?_, ?_⟩; · (go_simp; rfl)) | (refine wpY_move rfl rfl (by first | exact runs0 | exact runs1 rfl) Ext.refl rfl rfl rfl (fun _ _ _ h _ => h) ?_) | (refine wpY_val rfl rfl (by first | exact runs0 | exact runs1 rfl) Ext.refl rfl ?_; apply Exists.intro; refine ⟨?_, ?_⟩; · (intro a w' hR; intro h1; (first | (have e1 : _ = _ := h1) | skip); intro h2; (first | (have e2 : _ = _ := h2) | skip); go_simp; rfl)) | (refine wpY_val rfl rfl (by first | exact runs0 | exact runs1 rfl) Ext.refl rfl ?_; apply Exists.intro; refine ⟨?_, ?_⟩; · (intro a w' hR; intro h1; (first | (have e1 : _ = _ := h1) | skip); go_simp; rfl)) | (refine wpY_val rfl rfl (by first | exact runs0 | exact runs1 rfl) Ext.refl rfl ?_; apply Exists.intro; refine ⟨?_, ?_⟩; · (intro a w' hR; go_simp; rfl)) | (refine wpY_val rfl rfl (by first | exact runs0 | exact runs1 rfl) Ext.refl rfl ?_; apply Exists.intro; refine ⟨?_, ?_⟩; · (intro a w' hR; intro h1; (first | (have e1 : _ = _ := h1) | skip); intro h2; (first | (have e2 : _ = _ := h2) | skip); intro h3; (first | (have e3 : _ = _ := h3) | skip); go_simp; rfl)) | (refine wpY_skip rfl rfl (by first | exact .inl rfl | exact .inr rfl) ?_))
  refine wpY_val rfl rfl (by first | exact runs0 | exact runs1 rfl) Ext.refl rfl ?_; apply Exists.intro; refine ⟨?_, ?_⟩
  · intro a w' hR h1
    have e1 : _ = _ := h1
    have hl0 := hR.cell c0
    have hl1 := hR.cell c1
    have hl2 := hR.cell c2
    have hl3 := hR.cell c3
    have hl4 := hR.cell c4
    go_simp
    rfl
  refine wpY_val rfl rfl (by first | exact runs0 | exact runs1 rfl) Ext.refl rfl ?_; apply Exists.intro; refine ⟨?_, ?_⟩
  · intro a w' hR h1
    have e1 : _ = _ := h1
    have hl0 := hR.cell c0
    have hl1 := hR.cell c1
    have hl2 := hR.cell c2
    have hl3 := hR.cell c3
    have hl4 := hR.cell c4
    go_simp
    rfl
  refine wpY_done ?_
  intro w7 hx7 hS7
  iterate 5 (rintro _ rfl)
  dsimp only [FinV]
  go_simp
  clear hS7
  have hm7 := HM6.out.ext hx7
  have hn6 := HM6.out.nodup
  obtain ⟨w8, hdel, hm8, hx8⟩ := hm7.run_del keyK Try.underlying47 ((k1, k2), k3, k4)
  dsimp only [kV, vI] at hdel
  have HM8 := Lib.hid hm8
  have HX8 := Lib.hid hx8
  have HX7 := Lib.hid hx7
  have HN6 := Lib.hid hn6
  clear hm7 hm8 hx8 hx7 hn6
  simp only [thenTail, List.drop_succ_cons, List.drop_zero]
  go_wp2
  go_ret
  have hxx : ExtM b w5 w8 := (HX6.out.trans (ExtM.of HX7.out)).trans HX8.out
  refine ⟨rfl, HDN.out _ _ HC5.out hxx _ HM8.out (fun x => ?_), w5, HX5.out, hxx⟩
  rw [del_mem HN6.out x, HE6.out]
  constructor
  · rintro ⟨q | rfl, hne⟩
    · exact .inl q
    · exact absurd rfl hne
  · rintro (⟨q1, q2⟩ | ⟨q1, _⟩)
    · exact ⟨.inl ⟨q1, q2⟩, q2⟩
    · exact absurd hz0 q1
end Go.Proofs.Ytngdlahgihbmhaa
