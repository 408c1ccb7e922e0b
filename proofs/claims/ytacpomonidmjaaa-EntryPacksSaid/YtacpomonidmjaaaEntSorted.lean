/-
  Are entries in order; a copy of entries. (Printed by gen_ent.py.)
-/
import Derived.Test.YtacpomonidmjaaaEntCmp
import Derived.Test.YtacpomonidmjaaaRecSame
import Derived.Test.YtacpomonidmjaaaEff2
namespace Go.Proofs.Ytacpomonidmjaaa
open Go.RowKit Go.Ox Go.Shelf
set_option linter.unusedVariables false
set_option linter.unusedSimpArgs false

theorem eqlNilE (w : World) (A : Option Addr) (n c n' c' : Nat) : (binOp .eql 22 (.slice A n c) (.slice none n' c')).run Try.prog w = .ok (.bool A.isNone) w :=
  Lib.run_eql_slice_nil (P := Try.prog) w 22 28 A n c n' c' Try.underlying22
theorem easc_s {l : List Ent.E} {j : Nat} (h : j + 1 < l.length) (ha : Ent.Asc (l.take (j + 1))) (hc : ¬ Ent.lt l[j + 1] l[j]) : Ent.Asc (l.take (j + 1 + 1)) := by
  rw [List.take_succ_eq_append_getElem h]
  refine List.pairwise_append.2 ⟨ha, List.pairwise_singleton _ _, ?_⟩
  intro x hx y hy
  rw [List.mem_singleton.1 hy]
  refine Ent.not_lt_trans ?_ hc
  rw [List.take_succ_eq_append_getElem (by omega)] at ha hx
  rcases List.mem_append.1 hx with q | q
  · exact (List.pairwise_append.1 ha).2.2 x q _ (List.mem_singleton.2 rfl)
  · rw [List.mem_singleton.1 q]; exact Ent.lt_irrefl _
theorem easc_not {l : List Ent.E} {j : Nat} (h : j + 1 < l.length) (hc : Ent.lt l[j + 1] l[j]) : ¬ Ent.Asc l := fun ha =>
  (List.pairwise_iff_getElem.1 ha j (j + 1) (by omega) h (by omega)) hc
theorem easc_1 (l : List Ent.E) : Ent.Asc (l.take 1) := by
  match l with
  | [] => exact List.Pairwise.nil
  | x :: r => exact List.pairwise_singleton _ _
theorem easc_short {l : List Ent.E} (h : l.length ≤ 1) : Ent.Asc l := by
  match l, h with
  | [], _ => exact List.Pairwise.nil
  | [x], _ => exact List.pairwise_singleton _ _

set_option maxRecDepth 100000 in
set_option maxHeartbeats 4000000 in
theorem rsortedE_any (v : Value) (l : List Ent.E) (w : World) (hv : RE w v l) (hl : l.length ≤ 1000000) :
    Calls Try.prog 16 #[v] w fun e w' => ∃ b, e = .returned (.bool b) ∧ (b = true ↔ Ent.Asc l) ∧ Ext w w' := by
  obtain ⟨A, c, rfl⟩ := hv.form
  have HV := Lib.hid hv
  have HL := Lib.hid hl
  clear hv
  go_enter Try.func16, Try.ntmps16
  go_wp2
  go_loopw [3] (fun iv wr => ∃ j n : Nat, n = j + 1 ∧ (j = 0 ∨ j < l.length) ∧ iv = .int .i64 (n : Int) ∧ Ent.Asc (l.take (j + 1)) ∧ Ext w wr) (fun iv _ => l.length + 1 - (intOf iv).toNat)
  case atStart => exact ⟨0, 1, rfl, .inl rfl, rfl, easc_1 l, Ext.refl _⟩
  case round =>
    obtain ⟨j, n, hn, hj, rfl, hasc, hext⟩ := hrel
    have HNJ := Lib.hid hn
    have HE := Lib.hid hext
    have HA := Lib.hid hasc
    clear hasc
    by_cases hlt : j + 1 < l.length
    · have g0 : 0 ≤ (j : Int) := by omega
      have g1 : (j : Int) < (l.length : Int) := by omega
      have g2 : (n : Int) < (l.length : Int) := by omega
      have g3 : 0 ≤ (n : Int) := by omega
      obtain ⟨bA, oA, rfl, c0, c1, c2, c3⟩ := re4 (HV.out.ext hext) (k := j) (by omega)
      obtain ⟨bB, oB, hq2, d0, d1, d2, d3⟩ := re4 (HV.out.ext hext) hlt
      cases hq2
      have HS := Lib.hid (fun hc => easc_s hlt HA.out hc)
      have HN := Lib.hid (fun hc => easc_not hlt hc)
      have HCM := Lib.hid (fun w => rcompareE_any l[j] l[j + 1] w)
      have HQ := Lib.hid (show 0 < Ent.cmp l[j] l[j + 1] ↔ Ent.lt l[j + 1] l[j] by rw [← Ent.cmp_lt, Ent.cmp_flip l[j] l[j + 1]]; omega)
      have hwr : IntKind.i64.wrap ((n : Int) - 1) = (j : Int) := by rw [IntWalk.i64_in _ (by omega)]; omega
      have HJ := Lib.hid hlt
      generalize l[j] = x at *
      generalize l[j + 1] = y at *
      obtain ⟨⟨x1, x2⟩, x3, x4⟩ := x
      obtain ⟨⟨y1, y2⟩, y3, y4⟩ := y
      dsimp only at *
      rw [← hn] at d0 d1 d2 d3
      generalize Ent.cmp ((x1, x2), x3, x4) ((y1, y2), y3, y4) = z at *
      clear hext
      clear hn
      by_cases hz : 0 < z
      · have HNO := Lib.hid (HN.out (HQ.out.1 hz))
        clear HS HN HQ
        go_wp2
        refine wp_region_ext (by kernel_rfl) (by rfl) (by rfl) (by kernel_rfl) ?_
        repeat (first | ((first | (refine wpM_move00 Ext.refl rfl rfl rfl ?_) | (refine wpM_move01 Ext.refl rfl rfl rfl rfl ?_)); apply Exists.intro; refine ⟨?_, ?_⟩; · (go_simp; rfl)) | (first | (refine wpM_movek0 Ext.refl rfl rfl rfl ?_) | (refine wpM_movek1 Ext.refl rfl rfl rfl rfl ?_)) | ((first | (refine wpM_val0 Ext.refl rfl ?_) | (refine wpM_val1 Ext.refl rfl rfl ?_)); apply Exists.intro; refine ⟨?_, ?_⟩; · (intro a w' hR; intro h1; (first | (have e1 : _ = _ := h1) | skip); intro h2; (first | (have e2 : _ = _ := h2) | skip); go_simp; rfl)) | ((first | (refine wpM_val0 Ext.refl rfl ?_) | (refine wpM_val1 Ext.refl rfl rfl ?_)); apply Exists.intro; refine ⟨?_, ?_⟩; · (intro a w' hR; intro h1; (first | (have e1 : _ = _ := h1) | skip); go_simp; rfl)) | ((first | (refine wpM_val0 Ext.refl rfl ?_) | (refine wpM_val1 Ext.refl rfl rfl ?_)); apply Exists.intro; refine ⟨?_, ?_⟩; · (intro a w' hR; go_simp; rfl)) | ((first | (refine wpM_val0 Ext.refl rfl ?_) | (refine wpM_val1 Ext.refl rfl rfl ?_)); apply Exists.intro; refine ⟨?_, ?_⟩; · (intro a w' hR; intro h1; (first | (have e1 : _ = _ := h1) | skip); intro h2; (first | (have e2 : _ = _ := h2) | skip); intro h3; (first | (have e3 : _ = _ := h3) | skip); go_simp; rfl)) | (refine wpM_skip1 rfl ?_) | (refine wpM_skipU rfl ?_))
        (first | (refine wpM_val0 Ext.refl rfl ?_) | (refine wpM_val1 Ext.refl rfl rfl ?_)); apply Exists.intro; refine ⟨?_, ?_⟩
        · intro a w' hR h1
          have e1 : _ = _ := h1
          have hl0 := hR.cell c0
          have hl1 := hR.cell c1
          have hl2 := hR.cell c2
          have hl3 := hR.cell c3
          go_simp
          rfl
        repeat (first | ((first | (refine wpM_move00 Ext.refl rfl rfl rfl ?_) | (refine wpM_move01 Ext.refl rfl rfl rfl rfl ?_)); apply Exists.intro; refine ⟨?_, ?_⟩; · (go_simp; rfl)) | (first | (refine wpM_movek0 Ext.refl rfl rfl rfl ?_) | (refine wpM_movek1 Ext.refl rfl rfl rfl rfl ?_)) | ((first | (refine wpM_val0 Ext.refl rfl ?_) | (refine wpM_val1 Ext.refl rfl rfl ?_)); apply Exists.intro; refine ⟨?_, ?_⟩; · (intro a w' hR; intro h1; (first | (have e1 : _ = _ := h1) | skip); intro h2; (first | (have e2 : _ = _ := h2) | skip); go_simp; rfl)) | ((first | (refine wpM_val0 Ext.refl rfl ?_) | (refine wpM_val1 Ext.refl rfl rfl ?_)); apply Exists.intro; refine ⟨?_, ?_⟩; · (intro a w' hR; intro h1; (first | (have e1 : _ = _ := h1) | skip); go_simp; rfl)) | ((first | (refine wpM_val0 Ext.refl rfl ?_) | (refine wpM_val1 Ext.refl rfl rfl ?_)); apply Exists.intro; refine ⟨?_, ?_⟩; · (intro a w' hR; go_simp; rfl)) | ((first | (refine wpM_val0 Ext.refl rfl ?_) | (refine wpM_val1 Ext.refl rfl rfl ?_)); apply Exists.intro; refine ⟨?_, ?_⟩; · (intro a w' hR; intro h1; (first | (have e1 : _ = _ := h1) | skip); intro h2; (first | (have e2 : _ = _ := h2) | skip); intro h3; (first | (have e3 : _ = _ := h3) | skip); go_simp; rfl)) | (refine wpM_skip1 rfl ?_) | (refine wpM_skipU rfl ?_))
        (first | (refine wpM_val0 Ext.refl rfl ?_) | (refine wpM_val1 Ext.refl rfl rfl ?_)); apply Exists.intro; refine ⟨?_, ?_⟩
        · intro a w' hR h1
          have e1 : _ = _ := h1
          have hl0 := hR.cell d0
          have hl1 := hR.cell d1
          have hl2 := hR.cell d2
          have hl3 := hR.cell d3
          go_simp
          rfl
        first | (refine wpM_call0 (fun v _ => v = .int .i64 z) rfl (by first | exact mono_eq | exact (fun _ _ _ ⟨n, h1, h2, h3⟩ k => ⟨n, h1, h2, h3.ext k⟩) | exact (fun _ _ _ h k => RB.ext h k) | exact (fun _ _ _ h k => OB.ext h k) | exact (fun _ _ _ h k => Rd.ext h k) | exact (fun _ _ _ h k => ownsRow_ext h k) | exact (fun _ _ _ h k => RB.extC h k) | exact (fun _ _ _ h k => FB.extC h k) | exact (fun _ _ _ h k => Rd.extC h k) | exact (fun _ _ _ h k => RP.ext h k) | exact (fun _ _ _ h k => RE.ext h k)) ?_ ?_) | (refine wpM_call1 (fun v _ => v = .int .i64 z) rfl rfl (by first | exact mono_eq | exact (fun _ _ _ ⟨n, h1, h2, h3⟩ k => ⟨n, h1, h2, h3.ext k⟩) | exact (fun _ _ _ h k => RB.ext h k) | exact (fun _ _ _ h k => OB.ext h k) | exact (fun _ _ _ h k => Rd.ext h k) | exact (fun _ _ _ h k => ownsRow_ext h k) | exact (fun _ _ _ h k => RB.extC h k) | exact (fun _ _ _ h k => FB.extC h k) | exact (fun _ _ _ h k => Rd.extC h k) | exact (fun _ _ _ h k => RP.ext h k) | exact (fun _ _ _ h k => RE.ext h k)) ?_ ?_)
        · intro a w' hR h1 h2 K hK
          have e1 : _ = _ := h1
          have e2 : _ = _ := h2
          go_simp
          refine (HCM.out w').mono ?_
          rintro e w2 ⟨rfl, he⟩
          exact hK _ _ he rfl
        repeat (first | ((first | (refine wpM_move00 Ext.refl rfl rfl rfl ?_) | (refine wpM_move01 Ext.refl rfl rfl rfl rfl ?_)); apply Exists.intro; refine ⟨?_, ?_⟩; · (go_simp; rfl)) | (first | (refine wpM_movek0 Ext.refl rfl rfl rfl ?_) | (refine wpM_movek1 Ext.refl rfl rfl rfl rfl ?_)) | ((first | (refine wpM_val0 Ext.refl rfl ?_) | (refine wpM_val1 Ext.refl rfl rfl ?_)); apply Exists.intro; refine ⟨?_, ?_⟩; · (intro a w' hR; intro h1; (first | (have e1 : _ = _ := h1) | skip); intro h2; (first | (have e2 : _ = _ := h2) | skip); go_simp; rfl)) | ((first | (refine wpM_val0 Ext.refl rfl ?_) | (refine wpM_val1 Ext.refl rfl rfl ?_)); apply Exists.intro; refine ⟨?_, ?_⟩; · (intro a w' hR; intro h1; (first | (have e1 : _ = _ := h1) | skip); go_simp; rfl)) | ((first | (refine wpM_val0 Ext.refl rfl ?_) | (refine wpM_val1 Ext.refl rfl rfl ?_)); apply Exists.intro; refine ⟨?_, ?_⟩; · (intro a w' hR; go_simp; rfl)) | ((first | (refine wpM_val0 Ext.refl rfl ?_) | (refine wpM_val1 Ext.refl rfl rfl ?_)); apply Exists.intro; refine ⟨?_, ?_⟩; · (intro a w' hR; intro h1; (first | (have e1 : _ = _ := h1) | skip); intro h2; (first | (have e2 : _ = _ := h2) | skip); intro h3; (first | (have e3 : _ = _ := h3) | skip); go_simp; rfl)) | (refine wpM_skip1 rfl ?_) | (refine wpM_skipU rfl ?_))
        refine wpM_done ?_
        intro w5 hx5
        iterate 6 (rintro _ rfl)
        dsimp only [FinV]
        go_simp
        have HX5 := Lib.hid (HE.out.trans hx5)
        clear hx5
        go_wp2
        go_ret
        exact ⟨_, rfl, ⟨fun h => by simp at h, fun h => absurd h HNO.out⟩, HX5.out⟩
      · have HYS := Lib.hid (HS.out fun h => hz (HQ.out.2 h))
        clear HS HN HQ
        go_wp2
        refine wp_region_ext (by kernel_rfl) (by rfl) (by rfl) (by kernel_rfl) ?_
        repeat (first | ((first | (refine wpM_move00 Ext.refl rfl rfl rfl ?_) | (refine wpM_move01 Ext.refl rfl rfl rfl rfl ?_)); apply Exists.intro; refine ⟨?_, ?_⟩; · (go_simp; rfl)) | (first | (refine wpM_movek0 Ext.refl rfl rfl rfl ?_) | (refine wpM_movek1 Ext.refl rfl rfl rfl rfl ?_)) | ((first | (refine wpM_val0 Ext.refl rfl ?_) | (refine wpM_val1 Ext.refl rfl rfl ?_)); apply Exists.intro; refine ⟨?_, ?_⟩; · (intro a w' hR; intro h1; (first | (have e1 : _ = _ := h1) | skip); intro h2; (first | (have e2 : _ = _ := h2) | skip); go_simp; rfl)) | ((first | (refine wpM_val0 Ext.refl rfl ?_) | (refine wpM_val1 Ext.refl rfl rfl ?_)); apply Exists.intro; refine ⟨?_, ?_⟩; · (intro a w' hR; intro h1; (first | (have e1 : _ = _ := h1) | skip); go_simp; rfl)) | ((first | (refine wpM_val0 Ext.refl rfl ?_) | (refine wpM_val1 Ext.refl rfl rfl ?_)); apply Exists.intro; refine ⟨?_, ?_⟩; · (intro a w' hR; go_simp; rfl)) | ((first | (refine wpM_val0 Ext.refl rfl ?_) | (refine wpM_val1 Ext.refl rfl rfl ?_)); apply Exists.intro; refine ⟨?_, ?_⟩; · (intro a w' hR; intro h1; (first | (have e1 : _ = _ := h1) | skip); intro h2; (first | (have e2 : _ = _ := h2) | skip); intro h3; (first | (have e3 : _ = _ := h3) | skip); go_simp; rfl)) | (refine wpM_skip1 rfl ?_) | (refine wpM_skipU rfl ?_))
        (first | (refine wpM_val0 Ext.refl rfl ?_) | (refine wpM_val1 Ext.refl rfl rfl ?_)); apply Exists.intro; refine ⟨?_, ?_⟩
        · intro a w' hR h1
          have e1 : _ = _ := h1
          have hl0 := hR.cell c0
          have hl1 := hR.cell c1
          have hl2 := hR.cell c2
          have hl3 := hR.cell c3
          go_simp
          rfl
        repeat (first | ((first | (refine wpM_move00 Ext.refl rfl rfl rfl ?_) | (refine wpM_move01 Ext.refl rfl rfl rfl rfl ?_)); apply Exists.intro; refine ⟨?_, ?_⟩; · (go_simp; rfl)) | (first | (refine wpM_movek0 Ext.refl rfl rfl rfl ?_) | (refine wpM_movek1 Ext.refl rfl rfl rfl rfl ?_)) | ((first | (refine wpM_val0 Ext.refl rfl ?_) | (refine wpM_val1 Ext.refl rfl rfl ?_)); apply Exists.intro; refine ⟨?_, ?_⟩; · (intro a w' hR; intro h1; (first | (have e1 : _ = _ := h1) | skip); intro h2; (first | (have e2 : _ = _ := h2) | skip); go_simp; rfl)) | ((first | (refine wpM_val0 Ext.refl rfl ?_) | (refine wpM_val1 Ext.refl rfl rfl ?_)); apply Exists.intro; refine ⟨?_, ?_⟩; · (intro a w' hR; intro h1; (first | (have e1 : _ = _ := h1) | skip); go_simp; rfl)) | ((first | (refine wpM_val0 Ext.refl rfl ?_) | (refine wpM_val1 Ext.refl rfl rfl ?_)); apply Exists.intro; refine ⟨?_, ?_⟩; · (intro a w' hR; go_simp; rfl)) | ((first | (refine wpM_val0 Ext.refl rfl ?_) | (refine wpM_val1 Ext.refl rfl rfl ?_)); apply Exists.intro; refine ⟨?_, ?_⟩; · (intro a w' hR; intro h1; (first | (have e1 : _ = _ := h1) | skip); intro h2; (first | (have e2 : _ = _ := h2) | skip); intro h3; (first | (have e3 : _ = _ := h3) | skip); go_simp; rfl)) | (refine wpM_skip1 rfl ?_) | (refine wpM_skipU rfl ?_))
        (first | (refine wpM_val0 Ext.refl rfl ?_) | (refine wpM_val1 Ext.refl rfl rfl ?_)); apply Exists.intro; refine ⟨?_, ?_⟩
        · intro a w' hR h1
          have e1 : _ = _ := h1
          have hl0 := hR.cell d0
          have hl1 := hR.cell d1
          have hl2 := hR.cell d2
          have hl3 := hR.cell d3
          go_simp
          rfl
        first | (refine wpM_call0 (fun v _ => v = .int .i64 z) rfl (by first | exact mono_eq | exact (fun _ _ _ ⟨n, h1, h2, h3⟩ k => ⟨n, h1, h2, h3.ext k⟩) | exact (fun _ _ _ h k => RB.ext h k) | exact (fun _ _ _ h k => OB.ext h k) | exact (fun _ _ _ h k => Rd.ext h k) | exact (fun _ _ _ h k => ownsRow_ext h k) | exact (fun _ _ _ h k => RB.extC h k) | exact (fun _ _ _ h k => FB.extC h k) | exact (fun _ _ _ h k => Rd.extC h k) | exact (fun _ _ _ h k => RP.ext h k) | exact (fun _ _ _ h k => RE.ext h k)) ?_ ?_) | (refine wpM_call1 (fun v _ => v = .int .i64 z) rfl rfl (by first | exact mono_eq | exact (fun _ _ _ ⟨n, h1, h2, h3⟩ k => ⟨n, h1, h2, h3.ext k⟩) | exact (fun _ _ _ h k => RB.ext h k) | exact (fun _ _ _ h k => OB.ext h k) | exact (fun _ _ _ h k => Rd.ext h k) | exact (fun _ _ _ h k => ownsRow_ext h k) | exact (fun _ _ _ h k => RB.extC h k) | exact (fun _ _ _ h k => FB.extC h k) | exact (fun _ _ _ h k => Rd.extC h k) | exact (fun _ _ _ h k => RP.ext h k) | exact (fun _ _ _ h k => RE.ext h k)) ?_ ?_)
        · intro a w' hR h1 h2 K hK
          have e1 : _ = _ := h1
          have e2 : _ = _ := h2
          go_simp
          refine (HCM.out w').mono ?_
          rintro e w2 ⟨rfl, he⟩
          exact hK _ _ he rfl
        repeat (first | ((first | (refine wpM_move00 Ext.refl rfl rfl rfl ?_) | (refine wpM_move01 Ext.refl rfl rfl rfl rfl ?_)); apply Exists.intro; refine ⟨?_, ?_⟩; · (go_simp; rfl)) | (first | (refine wpM_movek0 Ext.refl rfl rfl rfl ?_) | (refine wpM_movek1 Ext.refl rfl rfl rfl rfl ?_)) | ((first | (refine wpM_val0 Ext.refl rfl ?_) | (refine wpM_val1 Ext.refl rfl rfl ?_)); apply Exists.intro; refine ⟨?_, ?_⟩; · (intro a w' hR; intro h1; (first | (have e1 : _ = _ := h1) | skip); intro h2; (first | (have e2 : _ = _ := h2) | skip); go_simp; rfl)) | ((first | (refine wpM_val0 Ext.refl rfl ?_) | (refine wpM_val1 Ext.refl rfl rfl ?_)); apply Exists.intro; refine ⟨?_, ?_⟩; · (intro a w' hR; intro h1; (first | (have e1 : _ = _ := h1) | skip); go_simp; rfl)) | ((first | (refine wpM_val0 Ext.refl rfl ?_) | (refine wpM_val1 Ext.refl rfl rfl ?_)); apply Exists.intro; refine ⟨?_, ?_⟩; · (intro a w' hR; go_simp; rfl)) | ((first | (refine wpM_val0 Ext.refl rfl ?_) | (refine wpM_val1 Ext.refl rfl rfl ?_)); apply Exists.intro; refine ⟨?_, ?_⟩; · (intro a w' hR; intro h1; (first | (have e1 : _ = _ := h1) | skip); intro h2; (first | (have e2 : _ = _ := h2) | skip); intro h3; (first | (have e3 : _ = _ := h3) | skip); go_simp; rfl)) | (refine wpM_skip1 rfl ?_) | (refine wpM_skipU rfl ?_))
        refine wpM_done ?_
        intro w5 hx5
        iterate 6 (rintro _ rfl)
        dsimp only [FinV]
        go_simp
        have HX5 := Lib.hid (HE.out.trans hx5)
        clear hx5
        go_wp2
        have hn := HNJ.out
        exact ⟨⟨j + 1, n + 1, by omega, .inr (by omega), by go_num, HYS.out, HX5.out⟩, by simp [intOf]; omega⟩
    · have g1 : ¬ (n : Int) < (l.length : Int) := by omega
      have HY := Lib.hid (show Ent.Asc l by
        by_cases h1 : l.length ≤ 1
        · exact easc_short h1
        · have := HA.out
          rwa [List.take_of_length_le (by omega)] at this)
      clear hext hn
      go_wp2
      go_ret
      exact .inr ⟨rfl, HY.out, HE.out⟩

theorem easc_down {l : List Ent.E} {j : Nat} (h : j + 1 < l.length) (ha : Ent.Asc (l.drop (j + 1))) (hc : ¬ Ent.lt l[j + 1] l[j]) : Ent.Asc (l.drop j) := by
  rw [List.drop_eq_getElem_cons (by omega)]
  refine List.pairwise_cons.2 ⟨?_, ha⟩
  intro y hy
  rw [List.drop_eq_getElem_cons h] at ha hy
  rcases List.mem_cons.1 hy with q | q
  · rw [q]; exact hc
  · exact Ent.not_lt_trans hc ((List.pairwise_cons.1 ha).1 y q)
theorem easc_last (l : List Ent.E) : Ent.Asc (l.drop (l.length - 1)) := easc_short (by rw [List.length_drop]; omega)

set_option maxRecDepth 100000 in
set_option maxHeartbeats 4000000 in
theorem isSortedE_any (v : Value) (l : List Ent.E) (w : World) (hv : RE w v l) (hl : l.length ≤ 1000000) :
    Calls Try.prog 44 #[v, .func (.func 13) #[] #[]] w fun e w' => ∃ b, e = .returned (.bool b) ∧ (b = true ↔ Ent.Asc l) ∧ Ext w w' := by
  obtain ⟨A, c, rfl⟩ := hv.form
  have HV := Lib.hid hv
  have HL := Lib.hid hl
  have hw0 : IntKind.i64.wrap ((l.length : Int) - 1) = (l.length : Int) - 1 := IntWalk.i64_in _ (by omega)
  clear hv
  go_enter Try.func44, Try.ntmps44
  go_wp2
  clear hw0
  go_loopw [5] (fun iv wr => ∃ z : Int, iv = .int .i64 z ∧ ((∃ n : Nat, z = n ∧ n < l.length ∧ Ent.Asc (l.drop n)) ∨ (z ≤ 0 ∧ Ent.Asc l)) ∧ Ext w wr) (fun iv _ => (intOf iv).toNat)
  case atStart =>
    refine ⟨_, rfl, ?_, Ext.refl _⟩
    by_cases h0 : l.length = 0
    · exact .inr ⟨by omega, easc_short (by omega)⟩
    · exact .inl ⟨l.length - 1, by omega, by omega, easc_last l⟩
  case round =>
    obtain ⟨z, rfl, hz, hext⟩ := hrel
    have HE := Lib.hid hext
    by_cases hp : 0 < z
    · obtain ⟨n, hn, hlt, hasc⟩ : ∃ n : Nat, z = n ∧ n < l.length ∧ Ent.Asc (l.drop n) := by
        rcases hz with q | q
        · exact q
        · omega
      clear hz
      obtain ⟨j, hj⟩ : ∃ j, n = j + 1 := ⟨n - 1, by omega⟩
      subst hn
      have HNJ := Lib.hid hj
      have HA := Lib.hid hasc
      clear hasc
      have g0 : 0 ≤ (j : Int) := by omega
      have g1 : (j : Int) < (l.length : Int) := by omega
      have g2 : (n : Int) < (l.length : Int) := by omega
      have g3 : 0 ≤ (n : Int) := by omega
      obtain ⟨bA, oA, rfl, c0, c1, c2, c3⟩ := re4 (HV.out.ext hext) (k := j) (by omega)
      obtain ⟨bB, oB, hq2, d0, d1, d2, d3⟩ := re4 (HV.out.ext hext) (k := j + 1) (by omega)
      cases hq2
      have hj1 : j + 1 < l.length := by omega
      have HS := Lib.hid (fun hc => easc_down (j := j) hj1 (by rw [← hj]; exact HA.out) hc)
      have HN := Lib.hid (fun hc => easc_not (l := l) (j := j) hj1 hc)
      have HCM := Lib.hid (fun w => compareE_any l[j + 1] l[j] w)
      have HQ := Lib.hid (show Ent.cmp l[j + 1] l[j] < 0 ↔ Ent.lt l[j + 1] l[j] from Ent.cmp_lt)
      have hwr : IntKind.i64.wrap ((n : Int) - 1) = (j : Int) := by rw [IntWalk.i64_in _ (by omega)]; omega
      generalize l[j] = x at *
      generalize l[j + 1] = y at *
      obtain ⟨⟨x1, x2⟩, x3, x4⟩ := x
      obtain ⟨⟨y1, y2⟩, y3, y4⟩ := y
      dsimp only at *
      rw [← hj] at d0 d1 d2 d3
      generalize Ent.cmp ((y1, y2), y3, y4) ((x1, x2), x3, x4) = z at *
      have HJ1 := Lib.hid hj1
      clear hext hj hj1
      by_cases hz : z < 0
      · have HNO := Lib.hid (HN.out (HQ.out.1 hz))
        clear HS HN HQ
        go_wp2
        refine wp_region_ext (by kernel_rfl) (by rfl) (by rfl) (by kernel_rfl) ?_
        repeat (first | ((first | (refine wpM_move00 Ext.refl rfl rfl rfl ?_) | (refine wpM_move01 Ext.refl rfl rfl rfl rfl ?_)); apply Exists.intro; refine ⟨?_, ?_⟩; · (go_simp; rfl)) | (first | (refine wpM_movek0 Ext.refl rfl rfl rfl ?_) | (refine wpM_movek1 Ext.refl rfl rfl rfl rfl ?_)) | ((first | (refine wpM_val0 Ext.refl rfl ?_) | (refine wpM_val1 Ext.refl rfl rfl ?_)); apply Exists.intro; refine ⟨?_, ?_⟩; · (intro a w' hR; intro h1; (first | (have e1 : _ = _ := h1) | skip); intro h2; (first | (have e2 : _ = _ := h2) | skip); go_simp; rfl)) | ((first | (refine wpM_val0 Ext.refl rfl ?_) | (refine wpM_val1 Ext.refl rfl rfl ?_)); apply Exists.intro; refine ⟨?_, ?_⟩; · (intro a w' hR; intro h1; (first | (have e1 : _ = _ := h1) | skip); go_simp; rfl)) | ((first | (refine wpM_val0 Ext.refl rfl ?_) | (refine wpM_val1 Ext.refl rfl rfl ?_)); apply Exists.intro; refine ⟨?_, ?_⟩; · (intro a w' hR; go_simp; rfl)) | ((first | (refine wpM_val0 Ext.refl rfl ?_) | (refine wpM_val1 Ext.refl rfl rfl ?_)); apply Exists.intro; refine ⟨?_, ?_⟩; · (intro a w' hR; intro h1; (first | (have e1 : _ = _ := h1) | skip); intro h2; (first | (have e2 : _ = _ := h2) | skip); intro h3; (first | (have e3 : _ = _ := h3) | skip); go_simp; rfl)) | (refine wpM_skip1 rfl ?_) | (refine wpM_skipU rfl ?_))
        (first | (refine wpM_val0 Ext.refl rfl ?_) | (refine wpM_val1 Ext.refl rfl rfl ?_)); apply Exists.intro; refine ⟨?_, ?_⟩
        · intro a w' hR h1
          have e1 : _ = _ := h1
          have hl0 := hR.cell d0
          have hl1 := hR.cell d1
          have hl2 := hR.cell d2
          have hl3 := hR.cell d3
          go_simp
          rfl
        repeat (first | ((first | (refine wpM_move00 Ext.refl rfl rfl rfl ?_) | (refine wpM_move01 Ext.refl rfl rfl rfl rfl ?_)); apply Exists.intro; refine ⟨?_, ?_⟩; · (go_simp; rfl)) | (first | (refine wpM_movek0 Ext.refl rfl rfl rfl ?_) | (refine wpM_movek1 Ext.refl rfl rfl rfl rfl ?_)) | ((first | (refine wpM_val0 Ext.refl rfl ?_) | (refine wpM_val1 Ext.refl rfl rfl ?_)); apply Exists.intro; refine ⟨?_, ?_⟩; · (intro a w' hR; intro h1; (first | (have e1 : _ = _ := h1) | skip); intro h2; (first | (have e2 : _ = _ := h2) | skip); go_simp; rfl)) | ((first | (refine wpM_val0 Ext.refl rfl ?_) | (refine wpM_val1 Ext.refl rfl rfl ?_)); apply Exists.intro; refine ⟨?_, ?_⟩; · (intro a w' hR; intro h1; (first | (have e1 : _ = _ := h1) | skip); go_simp; rfl)) | ((first | (refine wpM_val0 Ext.refl rfl ?_) | (refine wpM_val1 Ext.refl rfl rfl ?_)); apply Exists.intro; refine ⟨?_, ?_⟩; · (intro a w' hR; go_simp; rfl)) | ((first | (refine wpM_val0 Ext.refl rfl ?_) | (refine wpM_val1 Ext.refl rfl rfl ?_)); apply Exists.intro; refine ⟨?_, ?_⟩; · (intro a w' hR; intro h1; (first | (have e1 : _ = _ := h1) | skip); intro h2; (first | (have e2 : _ = _ := h2) | skip); intro h3; (first | (have e3 : _ = _ := h3) | skip); go_simp; rfl)) | (refine wpM_skip1 rfl ?_) | (refine wpM_skipU rfl ?_))
        (first | (refine wpM_val0 Ext.refl rfl ?_) | (refine wpM_val1 Ext.refl rfl rfl ?_)); apply Exists.intro; refine ⟨?_, ?_⟩
        · intro a w' hR h1
          have e1 : _ = _ := h1
          have hl0 := hR.cell c0
          have hl1 := hR.cell c1
          have hl2 := hR.cell c2
          have hl3 := hR.cell c3
          go_simp
          rfl
        first | (refine wpM_call0 (fun v _ => v = .int .i64 z) rfl (by first | exact mono_eq | exact (fun _ _ _ ⟨n, h1, h2, h3⟩ k => ⟨n, h1, h2, h3.ext k⟩) | exact (fun _ _ _ h k => RB.ext h k) | exact (fun _ _ _ h k => OB.ext h k) | exact (fun _ _ _ h k => Rd.ext h k) | exact (fun _ _ _ h k => ownsRow_ext h k) | exact (fun _ _ _ h k => RB.extC h k) | exact (fun _ _ _ h k => FB.extC h k) | exact (fun _ _ _ h k => Rd.extC h k) | exact (fun _ _ _ h k => RP.ext h k) | exact (fun _ _ _ h k => RE.ext h k)) ?_ ?_) | (refine wpM_call1 (fun v _ => v = .int .i64 z) rfl rfl (by first | exact mono_eq | exact (fun _ _ _ ⟨n, h1, h2, h3⟩ k => ⟨n, h1, h2, h3.ext k⟩) | exact (fun _ _ _ h k => RB.ext h k) | exact (fun _ _ _ h k => OB.ext h k) | exact (fun _ _ _ h k => Rd.ext h k) | exact (fun _ _ _ h k => ownsRow_ext h k) | exact (fun _ _ _ h k => RB.extC h k) | exact (fun _ _ _ h k => FB.extC h k) | exact (fun _ _ _ h k => Rd.extC h k) | exact (fun _ _ _ h k => RP.ext h k) | exact (fun _ _ _ h k => RE.ext h k)) ?_ ?_)
        · intro a w' hR h1 h2 h3 K hK
          have e1 : _ = _ := h1
          have e2 : _ = _ := h2
          have e3 : _ = _ := h3
          go_simp
          refine (HCM.out w').mono ?_
          rintro e w2 ⟨rfl, he⟩
          exact hK _ _ he rfl
        repeat (first | ((first | (refine wpM_move00 Ext.refl rfl rfl rfl ?_) | (refine wpM_move01 Ext.refl rfl rfl rfl rfl ?_)); apply Exists.intro; refine ⟨?_, ?_⟩; · (go_simp; rfl)) | (first | (refine wpM_movek0 Ext.refl rfl rfl rfl ?_) | (refine wpM_movek1 Ext.refl rfl rfl rfl rfl ?_)) | ((first | (refine wpM_val0 Ext.refl rfl ?_) | (refine wpM_val1 Ext.refl rfl rfl ?_)); apply Exists.intro; refine ⟨?_, ?_⟩; · (intro a w' hR; intro h1; (first | (have e1 : _ = _ := h1) | skip); intro h2; (first | (have e2 : _ = _ := h2) | skip); go_simp; rfl)) | ((first | (refine wpM_val0 Ext.refl rfl ?_) | (refine wpM_val1 Ext.refl rfl rfl ?_)); apply Exists.intro; refine ⟨?_, ?_⟩; · (intro a w' hR; intro h1; (first | (have e1 : _ = _ := h1) | skip); go_simp; rfl)) | ((first | (refine wpM_val0 Ext.refl rfl ?_) | (refine wpM_val1 Ext.refl rfl rfl ?_)); apply Exists.intro; refine ⟨?_, ?_⟩; · (intro a w' hR; go_simp; rfl)) | ((first | (refine wpM_val0 Ext.refl rfl ?_) | (refine wpM_val1 Ext.refl rfl rfl ?_)); apply Exists.intro; refine ⟨?_, ?_⟩; · (intro a w' hR; intro h1; (first | (have e1 : _ = _ := h1) | skip); intro h2; (first | (have e2 : _ = _ := h2) | skip); intro h3; (first | (have e3 : _ = _ := h3) | skip); go_simp; rfl)) | (refine wpM_skip1 rfl ?_) | (refine wpM_skipU rfl ?_))
        refine wpM_done ?_
        intro w5 hx5
        iterate 6 (rintro _ rfl)
        dsimp only [FinV]
        go_simp
        have HX5 := Lib.hid (HE.out.trans hx5)
        clear hx5
        go_wp2
        go_ret
        exact ⟨_, rfl, ⟨fun h => by simp at h, fun h => absurd h HNO.out⟩, HX5.out⟩
      · have HYS := Lib.hid (HS.out fun h => hz (HQ.out.2 h))
        clear HS HN HQ
        go_wp2
        refine wp_region_ext (by kernel_rfl) (by rfl) (by rfl) (by kernel_rfl) ?_
        repeat (first | ((first | (refine wpM_move00 Ext.refl rfl rfl rfl ?_) | (refine wpM_move01 Ext.refl rfl rfl rfl rfl ?_)); apply Exists.intro; refine ⟨?_, ?_⟩; · (go_simp; rfl)) | (first | (refine wpM_movek0 Ext.refl rfl rfl rfl ?_) | (refine wpM_movek1 Ext.refl rfl rfl rfl rfl ?_)) | ((first | (refine wpM_val0 Ext.refl rfl ?_) | (refine wpM_val1 Ext.refl rfl rfl ?_)); apply Exists.intro; refine ⟨?_, ?_⟩; · (intro a w' hR; intro h1; (first | (have e1 : _ = _ := h1) | skip); intro h2; (first | (have e2 : _ = _ := h2) | skip); go_simp; rfl)) | ((first | (refine wpM_val0 Ext.refl rfl ?_) | (refine wpM_val1 Ext.refl rfl rfl ?_)); apply Exists.intro; refine ⟨?_, ?_⟩; · (intro a w' hR; intro h1; (first | (have e1 : _ = _ := h1) | skip); go_simp; rfl)) | ((first | (refine wpM_val0 Ext.refl rfl ?_) | (refine wpM_val1 Ext.refl rfl rfl ?_)); apply Exists.intro; refine ⟨?_, ?_⟩; · (intro a w' hR; go_simp; rfl)) | ((first | (refine wpM_val0 Ext.refl rfl ?_) | (refine wpM_val1 Ext.refl rfl rfl ?_)); apply Exists.intro; refine ⟨?_, ?_⟩; · (intro a w' hR; intro h1; (first | (have e1 : _ = _ := h1) | skip); intro h2; (first | (have e2 : _ = _ := h2) | skip); intro h3; (first | (have e3 : _ = _ := h3) | skip); go_simp; rfl)) | (refine wpM_skip1 rfl ?_) | (refine wpM_skipU rfl ?_))
        (first | (refine wpM_val0 Ext.refl rfl ?_) | (refine wpM_val1 Ext.refl rfl rfl ?_)); apply Exists.intro; refine ⟨?_, ?_⟩
        · intro a w' hR h1
          have e1 : _ = _ := h1
          have hl0 := hR.cell d0
          have hl1 := hR.cell d1
          have hl2 := hR.cell d2
          have hl3 := hR.cell d3
          go_simp
          rfl
        repeat (first | ((first | (refine wpM_move00 Ext.refl rfl rfl rfl ?_) | (refine wpM_move01 Ext.refl rfl rfl rfl rfl ?_)); apply Exists.intro; refine ⟨?_, ?_⟩; · (go_simp; rfl)) | (first | (refine wpM_movek0 Ext.refl rfl rfl rfl ?_) | (refine wpM_movek1 Ext.refl rfl rfl rfl rfl ?_)) | ((first | (refine wpM_val0 Ext.refl rfl ?_) | (refine wpM_val1 Ext.refl rfl rfl ?_)); apply Exists.intro; refine ⟨?_, ?_⟩; · (intro a w' hR; intro h1; (first | (have e1 : _ = _ := h1) | skip); intro h2; (first | (have e2 : _ = _ := h2) | skip); go_simp; rfl)) | ((first | (refine wpM_val0 Ext.refl rfl ?_) | (refine wpM_val1 Ext.refl rfl rfl ?_)); apply Exists.intro; refine ⟨?_, ?_⟩; · (intro a w' hR; intro h1; (first | (have e1 : _ = _ := h1) | skip); go_simp; rfl)) | ((first | (refine wpM_val0 Ext.refl rfl ?_) | (refine wpM_val1 Ext.refl rfl rfl ?_)); apply Exists.intro; refine ⟨?_, ?_⟩; · (intro a w' hR; go_simp; rfl)) | ((first | (refine wpM_val0 Ext.refl rfl ?_) | (refine wpM_val1 Ext.refl rfl rfl ?_)); apply Exists.intro; refine ⟨?_, ?_⟩; · (intro a w' hR; intro h1; (first | (have e1 : _ = _ := h1) | skip); intro h2; (first | (have e2 : _ = _ := h2) | skip); intro h3; (first | (have e3 : _ = _ := h3) | skip); go_simp; rfl)) | (refine wpM_skip1 rfl ?_) | (refine wpM_skipU rfl ?_))
        (first | (refine wpM_val0 Ext.refl rfl ?_) | (refine wpM_val1 Ext.refl rfl rfl ?_)); apply Exists.intro; refine ⟨?_, ?_⟩
        · intro a w' hR h1
          have e1 : _ = _ := h1
          have hl0 := hR.cell c0
          have hl1 := hR.cell c1
          have hl2 := hR.cell c2
          have hl3 := hR.cell c3
          go_simp
          rfl
        first | (refine wpM_call0 (fun v _ => v = .int .i64 z) rfl (by first | exact mono_eq | exact (fun _ _ _ ⟨n, h1, h2, h3⟩ k => ⟨n, h1, h2, h3.ext k⟩) | exact (fun _ _ _ h k => RB.ext h k) | exact (fun _ _ _ h k => OB.ext h k) | exact (fun _ _ _ h k => Rd.ext h k) | exact (fun _ _ _ h k => ownsRow_ext h k) | exact (fun _ _ _ h k => RB.extC h k) | exact (fun _ _ _ h k => FB.extC h k) | exact (fun _ _ _ h k => Rd.extC h k) | exact (fun _ _ _ h k => RP.ext h k) | exact (fun _ _ _ h k => RE.ext h k)) ?_ ?_) | (refine wpM_call1 (fun v _ => v = .int .i64 z) rfl rfl (by first | exact mono_eq | exact (fun _ _ _ ⟨n, h1, h2, h3⟩ k => ⟨n, h1, h2, h3.ext k⟩) | exact (fun _ _ _ h k => RB.ext h k) | exact (fun _ _ _ h k => OB.ext h k) | exact (fun _ _ _ h k => Rd.ext h k) | exact (fun _ _ _ h k => ownsRow_ext h k) | exact (fun _ _ _ h k => RB.extC h k) | exact (fun _ _ _ h k => FB.extC h k) | exact (fun _ _ _ h k => Rd.extC h k) | exact (fun _ _ _ h k => RP.ext h k) | exact (fun _ _ _ h k => RE.ext h k)) ?_ ?_)
        · intro a w' hR h1 h2 h3 K hK
          have e1 : _ = _ := h1
          have e2 : _ = _ := h2
          have e3 : _ = _ := h3
          go_simp
          refine (HCM.out w').mono ?_
          rintro e w2 ⟨rfl, he⟩
          exact hK _ _ he rfl
        repeat (first | ((first | (refine wpM_move00 Ext.refl rfl rfl rfl ?_) | (refine wpM_move01 Ext.refl rfl rfl rfl rfl ?_)); apply Exists.intro; refine ⟨?_, ?_⟩; · (go_simp; rfl)) | (first | (refine wpM_movek0 Ext.refl rfl rfl rfl ?_) | (refine wpM_movek1 Ext.refl rfl rfl rfl rfl ?_)) | ((first | (refine wpM_val0 Ext.refl rfl ?_) | (refine wpM_val1 Ext.refl rfl rfl ?_)); apply Exists.intro; refine ⟨?_, ?_⟩; · (intro a w' hR; intro h1; (first | (have e1 : _ = _ := h1) | skip); intro h2; (first | (have e2 : _ = _ := h2) | skip); go_simp; rfl)) | ((first | (refine wpM_val0 Ext.refl rfl ?_) | (refine wpM_val1 Ext.refl rfl rfl ?_)); apply Exists.intro; refine ⟨?_, ?_⟩; · (intro a w' hR; intro h1; (first | (have e1 : _ = _ := h1) | skip); go_simp; rfl)) | ((first | (refine wpM_val0 Ext.refl rfl ?_) | (refine wpM_val1 Ext.refl rfl rfl ?_)); apply Exists.intro; refine ⟨?_, ?_⟩; · (intro a w' hR; go_simp; rfl)) | ((first | (refine wpM_val0 Ext.refl rfl ?_) | (refine wpM_val1 Ext.refl rfl rfl ?_)); apply Exists.intro; refine ⟨?_, ?_⟩; · (intro a w' hR; intro h1; (first | (have e1 : _ = _ := h1) | skip); intro h2; (first | (have e2 : _ = _ := h2) | skip); intro h3; (first | (have e3 : _ = _ := h3) | skip); go_simp; rfl)) | (refine wpM_skip1 rfl ?_) | (refine wpM_skipU rfl ?_))
        refine wpM_done ?_
        intro w5 hx5
        iterate 6 (rintro _ rfl)
        dsimp only [FinV]
        go_simp
        have HX5 := Lib.hid (HE.out.trans hx5)
        clear hx5
        go_wp2
        have hn := HNJ.out
        exact ⟨⟨_, rfl, .inl ⟨j, rfl, by omega, HYS.out⟩, HX5.out⟩, by simp [intOf]; omega⟩
    · have HY := Lib.hid (show Ent.Asc l by
        rcases hz with ⟨n, hn, hlt, hasc⟩ | q
        · obtain rfl : n = 0 := by omega
          simpa using hasc
        · exact q.2)
      clear hext hz
      go_wp2
      go_ret
      exact .inr ⟨rfl, HY.out, HE.out⟩

set_option maxRecDepth 100000 in
set_option maxHeartbeats 2000000 in
theorem entSorted_any (v : Value) (l : List Ent.E) (w : World) (hv : RE w v l) (hl : l.length ≤ 1000000) :
    Calls Try.prog 15 #[v] w fun e w' => ∃ b, e = .returned (.bool b) ∧ (b = true ↔ Ent.Asc l) ∧ Ext w w' := by
  have HC := Lib.hid (isSortedE_any v l w hv hl)
  clear hv hl
  go_enter Try.func15, Try.ntmps15
  go_wp2_with fail
  refine HC.out.mono ?_
  rintro e1 w1 ⟨b, rfl, hb, he1⟩
  go_wp2
  go_ret
  exact ⟨b, rfl, hb, he1⟩
set_option maxRecDepth 100000 in
set_option maxHeartbeats 1000000 in
theorem cloneE_any (v : Value) (l : List Ent.E) (w : World) (hb : RE w v l) (hl : l.length ≤ 1000000000) :
    Calls Try.prog 33 #[v] w fun e w' => ∃ v', e = .returned v' ∧ OE 28 w.heap.size w' v' l ∧ Ext w w' := by
  have HB := Lib.hid hb
  obtain ⟨A, c, rfl⟩ := hb.form
  have hnc := hb.nc
  have he := eqlNilE
  have HE := he
  cases A with
  | none =>
    obtain ⟨A', c', he', hrd⟩ := hb
    injection he' with e1 e2 e3
    subst e1 e3
    have h0 := hrd.nil rfl
    have hn : l.length = 0 := by omega
    obtain rfl := List.eq_nil_of_length_eq_zero hn
    subst h0
    clear hrd hn hnc
    go_enter Try.func33, Try.ntmps33
    go_wp2
    go_ret
    exact ⟨_, rfl, OE.nilS _ _ _, Ext.refl _⟩
  | some ad =>
    clear hb hnc
    have hown : (w.alloc (.cells #[] 28)).ownsRow w.heap.size 28 4 (.slice (some ⟨w.heap.size, 0, none⟩) 0 0) 0 [] :=
      World.ownsRow_lit w #[] 0 (Nat.le_refl _) (by unfold maxLen; omega) rfl
    have HO := Lib.hid hown
    clear hown
    go_enter Try.func33, Try.ntmps33
    go_wp2_with (at_builtin; refine wpList_app rfl elemE _ _ _ rfl w.heap.size _ 0 [] rfl HO.out _ l.length (eV l) rfl (HB.out.ext ((Ext.refl _).alloc _)) (one_eV l) (by omega) (by unfold maxLen; omega) (by simp) ?_; intro v' w' ha)
    go_ret
    exact ⟨_, rfl, OE.of0 ha.own, ha.ext ((Ext.refl _).alloc _) rfl HO.out⟩
end Go.Proofs.Ytacpomonidmjaaa
