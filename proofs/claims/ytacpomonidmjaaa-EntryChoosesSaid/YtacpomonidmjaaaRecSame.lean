/-
  The walks on records: how often one is there; the document's word on which bags may be.
  The walks of the document's answer on records: in order; the same bag.
  slices.Equal at records; whether two bags are the same. (Printed by gen_recsame.py.)
  rec.Sorted (slices.IsSortedFunc at records).
  The document's Distinct on records.
-/
import Derived.Test.YtacpomonidmjaaaRecRef
namespace Go.Proofs.Ytacpomonidmjaaa
open Go.RowKit Go.Ox Go.Shelf
attribute [local irreducible] OP RP
set_option linter.unusedVariables false
set_option linter.unusedSimpArgs false

/-- how often -/
def cntR (l : List Rec.R) (r : Rec.R) : Nat := l.countP fun x => decide (x = r)
theorem cntR_s (l : List Rec.R) (r : Rec.R) (k : Nat) (h : k < l.length) : cntR (l.take (k + 1)) r = cntR (l.take k) r + (if l[k] = r then 1 else 0) := by
  unfold cntR
  rw [List.take_succ_eq_append_getElem h, List.countP_append]
  by_cases hq : l[k] = r <;> simp [hq]
theorem cntR_le (l : List Rec.R) (r : Rec.R) (k : Nat) : cntR (l.take k) r ≤ k := by
  unfold cntR
  have := List.countP_le_length (p := fun x => decide (x = r)) (l := l.take k)
  rw [List.length_take] at this
  omega
theorem all_take_r (l : List Rec.R) (p : Rec.R → Bool) (k : Nat) (h : k < l.length) : (l.take (k + 1)).all p = ((l.take k).all p && p l[k]) := by
  rw [List.take_succ_eq_append_getElem h, List.all_append]; simp

end Go.Proofs.Ytacpomonidmjaaa
namespace Go.Proofs.Ytacpomonidmjaaa
open Go.RowKit Go.Ox Go.Shelf
attribute [local irreducible] OP RP
set_option linter.unusedVariables false
set_option linter.unusedSimpArgs false

theorem rasc_s {l : List Rec.R} {j : Nat} (h : j + 1 < l.length) (ha : Rec.Asc (l.take (j + 1))) (hc : ¬ Mom.lt l[j + 1] l[j]) : Rec.Asc (l.take (j + 1 + 1)) := by
  rw [List.take_succ_eq_append_getElem h]
  refine List.pairwise_append.2 ⟨ha, List.pairwise_singleton _ _, ?_⟩
  intro x hx y hy
  rw [List.mem_singleton.1 hy]
  refine Rec.not_lt_trans ?_ hc
  rw [List.take_succ_eq_append_getElem (by omega)] at ha hx
  rcases List.mem_append.1 hx with q | q
  · exact (List.pairwise_append.1 ha).2.2 x q _ (List.mem_singleton.2 rfl)
  · rw [List.mem_singleton.1 q]; unfold Mom.lt; omega
theorem rasc_not {l : List Rec.R} {j : Nat} (h : j + 1 < l.length) (hc : Mom.lt l[j + 1] l[j]) : ¬ Rec.Asc l := fun ha =>
  (List.pairwise_iff_getElem.1 ha j (j + 1) (by omega) h (by omega)) hc
theorem rasc_1 (l : List Rec.R) : Rec.Asc (l.take 1) := by
  match l with
  | [] => exact List.Pairwise.nil
  | x :: r => exact List.pairwise_singleton _ _
theorem rasc_short {l : List Rec.R} (h : l.length ≤ 1) : Rec.Asc l := by
  match l, h with
  | [], _ => exact List.Pairwise.nil
  | [x], _ => exact List.pairwise_singleton _ _

set_option maxRecDepth 100000 in
set_option maxHeartbeats 4000000 in
theorem rsorted_any (v : Value) (l : List Rec.R) (w : World) (hv : RP w v l) (hl : l.length ≤ 1000000) :
    Calls Try.prog 30 #[v] w fun e w' => ∃ b, e = .returned (.bool b) ∧ (b = true ↔ Rec.Asc l) ∧ Ext w w' := by
  obtain ⟨A, c, rfl⟩ := hv.form
  have HV := Lib.hid hv
  have HL := Lib.hid hl
  clear hv
  go_enter Try.func30, Try.ntmps30
  go_wp2
  go_loopw [3] (fun iv wr => ∃ j n : Nat, n = j + 1 ∧ (j = 0 ∨ j < l.length) ∧ iv = .int .i64 (n : Int) ∧ Rec.Asc (l.take (j + 1)) ∧ Ext w wr) (fun iv _ => l.length + 1 - (intOf iv).toNat)
  case atStart => exact ⟨0, 1, rfl, .inl rfl, rfl, rasc_1 l, Ext.refl _⟩
  case round =>
    obtain ⟨j, n, hn, hj, rfl, hasc, hext⟩ := hrel
    have HNJ := Lib.hid hn
    have HE := Lib.hid hext
    have HA := Lib.hid hasc
    clear hasc
    by_cases hlt : j + 1 < l.length
    · have g0 : 0 ≤ (j : Int) := by omega
      have g1 : (j : Int) < (l.length : Int) := by omega
      have g2 : (n : Int) < (l.length : Int) := by omega
      have g3 : 0 ≤ (n : Int) := by omega
      obtain ⟨bA, oA, rfl, c0, c1⟩ := (HV.out.ext hext).at_ (k := j) (by omega)
      obtain ⟨bB, oB, hq2, d0, d1⟩ := (HV.out.ext hext).at_ hlt
      cases hq2
      have HS := Lib.hid (fun hc => rasc_s hlt HA.out hc)
      have HN := Lib.hid (fun hc => rasc_not hlt hc)
      have HCM := Lib.hid (fun w => rcompare_any l[j] l[j + 1] w)
      have HQ := Lib.hid (show 0 < Mom.cmp l[j] l[j + 1] ↔ Mom.lt l[j + 1] l[j] by rw [← Mom.cmp_lt, Mom.cmp_flip l[j] l[j + 1]]; omega)
      have hwr : IntKind.i64.wrap ((n : Int) - 1) = (j : Int) := by rw [IntWalk.i64_in _ (by omega)]; omega
      have HJ := Lib.hid hlt
      generalize l[j] = x at *
      generalize l[j + 1] = y at *
      obtain ⟨x1, x2⟩ := x
      obtain ⟨y1, y2⟩ := y
      dsimp only at *
      rw [← hn] at d0 d1
      generalize Mom.cmp (x1, x2) (y1, y2) = z at *
      clear hext
      clear hn
      by_cases hz : 0 < z
      · have HNO := Lib.hid (HN.out (HQ.out.1 hz))
        clear HS HN HQ
        go_wp2
        refine wp_region_ext (by kernel_rfl) (by rfl) (by rfl) (by kernel_rfl) ?_
        repeat (first | ((first | (refine wpM_move00 Ext.refl rfl rfl rfl ?_) | (refine wpM_move01 Ext.refl rfl rfl rfl rfl ?_)); apply Exists.intro; refine ⟨?_, ?_⟩; · (go_simp; rfl)) | (first | (refine wpM_movek0 Ext.refl rfl rfl rfl ?_) | (refine wpM_movek1 Ext.refl rfl rfl rfl rfl ?_)) | ((first | (refine wpM_val0 Ext.refl rfl ?_) | (refine wpM_val1 Ext.refl rfl rfl ?_)); apply Exists.intro; refine ⟨?_, ?_⟩; · (intro a w' hR; intro h1; (first | (have e1 : _ = _ := h1) | skip); intro h2; (first | (have e2 : _ = _ := h2) | skip); go_simp; rfl)) | ((first | (refine wpM_val0 Ext.refl rfl ?_) | (refine wpM_val1 Ext.refl rfl rfl ?_)); apply Exists.intro; refine ⟨?_, ?_⟩; · (intro a w' hR; intro h1; (first | (have e1 : _ = _ := h1) | skip); go_simp; rfl)) | ((first | (refine wpM_val0 Ext.refl rfl ?_) | (refine wpM_val1 Ext.refl rfl rfl ?_)); apply Exists.intro; refine ⟨?_, ?_⟩; · (intro a w' hR; go_simp; rfl)) | ((first | (refine wpM_val0 Ext.refl rfl ?_) | (refine wpM_val1 Ext.refl rfl rfl ?_)); apply Exists.intro; refine ⟨?_, ?_⟩; · (intro a w' hR; intro h1; (first | (have e1 : _ = _ := h1) | skip); intro h2; (first | (have e2 : _ = _ := h2) | skip); intro h3; (first | (have e3 : _ = _ := h3) | skip); go_simp; rfl)) | (refine wpM_skip1 rfl ?_) | (refine wpM_skipU rfl ?_))
        (first | (refine wpM_val0 Ext.refl rfl ?_) | (refine wpM_val1 Ext.refl rfl rfl ?_)); apply Exists.intro; refine ⟨?_, ?_⟩
        · intro a w' hR h1
          have e1 : _ = _ := h1
          have hl0 := hR.cell c0
          have hl1 := hR.cell c1
          go_simp
          rfl
        repeat (first | ((first | (refine wpM_move00 Ext.refl rfl rfl rfl ?_) | (refine wpM_move01 Ext.refl rfl rfl rfl rfl ?_)); apply Exists.intro; refine ⟨?_, ?_⟩; · (go_simp; rfl)) | (first | (refine wpM_movek0 Ext.refl rfl rfl rfl ?_) | (refine wpM_movek1 Ext.refl rfl rfl rfl rfl ?_)) | ((first | (refine wpM_val0 Ext.refl rfl ?_) | (refine wpM_val1 Ext.refl rfl rfl ?_)); apply Exists.intro; refine ⟨?_, ?_⟩; · (intro a w' hR; intro h1; (first | (have e1 : _ = _ := h1) | skip); intro h2; (first | (have e2 : _ = _ := h2) | skip); go_simp; rfl)) | ((first | (refine wpM_val0 Ext.refl rfl ?_) | (refine wpM_val1 Ext.refl rfl rfl ?_)); apply Exists.intro; refine ⟨?_, ?_⟩; · (intro a w' hR; intro h1; (first | (have e1 : _ = _ := h1) | skip); go_simp; rfl)) | ((first | (refine wpM_val0 Ext.refl rfl ?_) | (refine wpM_val1 Ext.refl rfl rfl ?_)); apply Exists.intro; refine ⟨?_, ?_⟩; · (intro a w' hR; go_simp; rfl)) | ((first | (refine wpM_val0 Ext.refl rfl ?_) | (refine wpM_val1 Ext.refl rfl rfl ?_)); apply Exists.intro; refine ⟨?_, ?_⟩; · (intro a w' hR; intro h1; (first | (have e1 : _ = _ := h1) | skip); intro h2; (first | (have e2 : _ = _ := h2) | skip); intro h3; (first | (have e3 : _ = _ := h3) | skip); go_simp; rfl)) | (refine wpM_skip1 rfl ?_) | (refine wpM_skipU rfl ?_))
        (first | (refine wpM_val0 Ext.refl rfl ?_) | (refine wpM_val1 Ext.refl rfl rfl ?_)); apply Exists.intro; refine ⟨?_, ?_⟩
        · intro a w' hR h1
          have e1 : _ = _ := h1
          have hl0 := hR.cell d0
          have hl1 := hR.cell d1
          go_simp
          rfl
        first | (refine wpM_call0 (fun v _ => v = .int .i64 z) rfl (by first | exact mono_eq | exact (fun _ _ _ ⟨n, h1, h2, h3⟩ k => ⟨n, h1, h2, h3.ext k⟩) | exact (fun _ _ _ h k => RB.ext h k) | exact (fun _ _ _ h k => OB.ext h k) | exact (fun _ _ _ h k => Rd.ext h k) | exact (fun _ _ _ h k => ownsRow_ext h k) | exact (fun _ _ _ h k => RB.extC h k) | exact (fun _ _ _ h k => FB.extC h k) | exact (fun _ _ _ h k => Rd.extC h k) | exact (fun _ _ _ h k => RP.ext h k) | exact (fun _ _ _ h k => RE.ext h k)) ?_ ?_) | (refine wpM_call1 (fun v _ => v = .int .i64 z) rfl rfl (by first | exact mono_eq | exact (fun _ _ _ ⟨n, h1, h2, h3⟩ k => ⟨n, h1, h2, h3.ext k⟩) | exact (fun _ _ _ h k => RB.ext h k) | exact (fun _ _ _ h k => OB.ext h k) | exact (fun _ _ _ h k => Rd.ext h k) | exact (fun _ _ _ h k => ownsRow_ext h k) | exact (fun _ _ _ h k => RB.extC h k) | exact (fun _ _ _ h k => FB.extC h k) | exact (fun _ _ _ h k => Rd.extC h k) | exact (fun _ _ _ h k => RP.ext h k) | exact (fun _ _ _ h k => RE.ext h k)) ?_ ?_)
        · intro a w' hR h1 h2 K hK
          have e1 : _ = _ := h1
          have e2 : _ = _ := h2
          go_simp
          refine (HCM.out w').mono ?_
          rintro e w2 ⟨rfl, he⟩
          exact hK _ _ he rfl
        repeat (first | ((first | (refine wpM_move00 Ext.refl rfl rfl rfl ?_) | (refine wpM_move01 Ext.refl rfl rfl rfl rfl ?_)); apply Exists.intro; refine ⟨?_, ?_⟩; · (go_simp; rfl)) | (first | (refine wpM_movek0 Ext.refl rfl rfl rfl ?_) | (refine wpM_movek1 Ext.refl rfl rfl rfl rfl ?_)) | ((first | (refine wpM_val0 Ext.refl rfl ?_) | (refine wpM_val1 Ext.refl rfl rfl ?_)); apply Exists.intro; refine ⟨?_, ?_⟩; · (intro a w' hR; intro h1; (first | (have e1 : _ = _ := h1) | skip); intro h2; (first | (have e2 : _ = _ := h2) | skip); go_simp; rfl)) | ((first | (refine wpM_val0 Ext.refl rfl ?_) | (refine wpM_val1 Ext.refl rfl rfl ?_)); apply Exists.intro; refine ⟨?_, ?_⟩; · (intro a w' hR; intro h1; (first | (have e1 : _ = _ := h1) | skip); go_simp; rfl)) | ((first | (refine wpM_val0 Ext.refl rfl ?_) | (refine wpM_val1 Ext.refl rfl rfl ?_)); apply Exists.intro; refine ⟨?_, ?_⟩; · (intro a w' hR; go_simp; rfl)) | ((first | (refine wpM_val0 Ext.refl rfl ?_) | (refine wpM_val1 Ext.refl rfl rfl ?_)); apply Exists.intro; refine ⟨?_, ?_⟩; · (intro a w' hR; intro h1; (first | (have e1 : _ = _ := h1) | skip); intro h2; (first | (have e2 : _ = _ := h2) | skip); intro h3; (first | (have e3 : _ = _ := h3) | skip); go_simp; rfl)) | (refine wpM_skip1 rfl ?_) | (refine wpM_skipU rfl ?_))
        refine wpM_done ?_
        intro w5 hx5
        iterate 6 (rintro _ rfl)
        dsimp only [FinV]
        go_simp
        have HX5 := Lib.hid (HE.out.trans hx5)
        clear hx5
        go_wp2
        go_ret
        exact ⟨_, rfl, ⟨fun h => by simp at h, fun h => absurd h HNO.out⟩, HX5.out⟩
      · have HYS := Lib.hid (HS.out fun h => hz (HQ.out.2 h))
        clear HS HN HQ
        go_wp2
        refine wp_region_ext (by kernel_rfl) (by rfl) (by rfl) (by kernel_rfl) ?_
        repeat (first | ((first | (refine wpM_move00 Ext.refl rfl rfl rfl ?_) | (refine wpM_move01 Ext.refl rfl rfl rfl rfl ?_)); apply Exists.intro; refine ⟨?_, ?_⟩; · (go_simp; rfl)) | (first | (refine wpM_movek0 Ext.refl rfl rfl rfl ?_) | (refine wpM_movek1 Ext.refl rfl rfl rfl rfl ?_)) | ((first | (refine wpM_val0 Ext.refl rfl ?_) | (refine wpM_val1 Ext.refl rfl rfl ?_)); apply Exists.intro; refine ⟨?_, ?_⟩; · (intro a w' hR; intro h1; (first | (have e1 : _ = _ := h1) | skip); intro h2; (first | (have e2 : _ = _ := h2) | skip); go_simp; rfl)) | ((first | (refine wpM_val0 Ext.refl rfl ?_) | (refine wpM_val1 Ext.refl rfl rfl ?_)); apply Exists.intro; refine ⟨?_, ?_⟩; · (intro a w' hR; intro h1; (first | (have e1 : _ = _ := h1) | skip); go_simp; rfl)) | ((first | (refine wpM_val0 Ext.refl rfl ?_) | (refine wpM_val1 Ext.refl rfl rfl ?_)); apply Exists.intro; refine ⟨?_, ?_⟩; · (intro a w' hR; go_simp; rfl)) | ((first | (refine wpM_val0 Ext.refl rfl ?_) | (refine wpM_val1 Ext.refl rfl rfl ?_)); apply Exists.intro; refine ⟨?_, ?_⟩; · (intro a w' hR; intro h1; (first | (have e1 : _ = _ := h1) | skip); intro h2; (first | (have e2 : _ = _ := h2) | skip); intro h3; (first | (have e3 : _ = _ := h3) | skip); go_simp; rfl)) | (refine wpM_skip1 rfl ?_) | (refine wpM_skipU rfl ?_))
        (first | (refine wpM_val0 Ext.refl rfl ?_) | (refine wpM_val1 Ext.refl rfl rfl ?_)); apply Exists.intro; refine ⟨?_, ?_⟩
        · intro a w' hR h1
          have e1 : _ = _ := h1
          have hl0 := hR.cell c0
          have hl1 := hR.cell c1
          go_simp
          rfl
        repeat (first | ((first | (refine wpM_move00 Ext.refl rfl rfl rfl ?_) | (refine wpM_move01 Ext.refl rfl rfl rfl rfl ?_)); apply Exists.intro; refine ⟨?_, ?_⟩; · (go_simp; rfl)) | (first | (refine wpM_movek0 Ext.refl rfl rfl rfl ?_) | (refine wpM_movek1 Ext.refl rfl rfl rfl rfl ?_)) | ((first | (refine wpM_val0 Ext.refl rfl ?_) | (refine wpM_val1 Ext.refl rfl rfl ?_)); apply Exists.intro; refine ⟨?_, ?_⟩; · (intro a w' hR; intro h1; (first | (have e1 : _ = _ := h1) | skip); intro h2; (first | (have e2 : _ = _ := h2) | skip); go_simp; rfl)) | ((first | (refine wpM_val0 Ext.refl rfl ?_) | (refine wpM_val1 Ext.refl rfl rfl ?_)); apply Exists.intro; refine ⟨?_, ?_⟩; · (intro a w' hR; intro h1; (first | (have e1 : _ = _ := h1) | skip); go_simp; rfl)) | ((first | (refine wpM_val0 Ext.refl rfl ?_) | (refine wpM_val1 Ext.refl rfl rfl ?_)); apply Exists.intro; refine ⟨?_, ?_⟩; · (intro a w' hR; go_simp; rfl)) | ((first | (refine wpM_val0 Ext.refl rfl ?_) | (refine wpM_val1 Ext.refl rfl rfl ?_)); apply Exists.intro; refine ⟨?_, ?_⟩; · (intro a w' hR; intro h1; (first | (have e1 : _ = _ := h1) | skip); intro h2; (first | (have e2 : _ = _ := h2) | skip); intro h3; (first | (have e3 : _ = _ := h3) | skip); go_simp; rfl)) | (refine wpM_skip1 rfl ?_) | (refine wpM_skipU rfl ?_))
        (first | (refine wpM_val0 Ext.refl rfl ?_) | (refine wpM_val1 Ext.refl rfl rfl ?_)); apply Exists.intro; refine ⟨?_, ?_⟩
        · intro a w' hR h1
          have e1 : _ = _ := h1
          have hl0 := hR.cell d0
          have hl1 := hR.cell d1
          go_simp
          rfl
        first | (refine wpM_call0 (fun v _ => v = .int .i64 z) rfl (by first | exact mono_eq | exact (fun _ _ _ ⟨n, h1, h2, h3⟩ k => ⟨n, h1, h2, h3.ext k⟩) | exact (fun _ _ _ h k => RB.ext h k) | exact (fun _ _ _ h k => OB.ext h k) | exact (fun _ _ _ h k => Rd.ext h k) | exact (fun _ _ _ h k => ownsRow_ext h k) | exact (fun _ _ _ h k => RB.extC h k) | exact (fun _ _ _ h k => FB.extC h k) | exact (fun _ _ _ h k => Rd.extC h k) | exact (fun _ _ _ h k => RP.ext h k) | exact (fun _ _ _ h k => RE.ext h k)) ?_ ?_) | (refine wpM_call1 (fun v _ => v = .int .i64 z) rfl rfl (by first | exact mono_eq | exact (fun _ _ _ ⟨n, h1, h2, h3⟩ k => ⟨n, h1, h2, h3.ext k⟩) | exact (fun _ _ _ h k => RB.ext h k) | exact (fun _ _ _ h k => OB.ext h k) | exact (fun _ _ _ h k => Rd.ext h k) | exact (fun _ _ _ h k => ownsRow_ext h k) | exact (fun _ _ _ h k => RB.extC h k) | exact (fun _ _ _ h k => FB.extC h k) | exact (fun _ _ _ h k => Rd.extC h k) | exact (fun _ _ _ h k => RP.ext h k) | exact (fun _ _ _ h k => RE.ext h k)) ?_ ?_)
        · intro a w' hR h1 h2 K hK
          have e1 : _ = _ := h1
          have e2 : _ = _ := h2
          go_simp
          refine (HCM.out w').mono ?_
          rintro e w2 ⟨rfl, he⟩
          exact hK _ _ he rfl
        repeat (first | ((first | (refine wpM_move00 Ext.refl rfl rfl rfl ?_) | (refine wpM_move01 Ext.refl rfl rfl rfl rfl ?_)); apply Exists.intro; refine ⟨?_, ?_⟩; · (go_simp; rfl)) | (first | (refine wpM_movek0 Ext.refl rfl rfl rfl ?_) | (refine wpM_movek1 Ext.refl rfl rfl rfl rfl ?_)) | ((first | (refine wpM_val0 Ext.refl rfl ?_) | (refine wpM_val1 Ext.refl rfl rfl ?_)); apply Exists.intro; refine ⟨?_, ?_⟩; · (intro a w' hR; intro h1; (first | (have e1 : _ = _ := h1) | skip); intro h2; (first | (have e2 : _ = _ := h2) | skip); go_simp; rfl)) | ((first | (refine wpM_val0 Ext.refl rfl ?_) | (refine wpM_val1 Ext.refl rfl rfl ?_)); apply Exists.intro; refine ⟨?_, ?_⟩; · (intro a w' hR; intro h1; (first | (have e1 : _ = _ := h1) | skip); go_simp; rfl)) | ((first | (refine wpM_val0 Ext.refl rfl ?_) | (refine wpM_val1 Ext.refl rfl rfl ?_)); apply Exists.intro; refine ⟨?_, ?_⟩; · (intro a w' hR; go_simp; rfl)) | ((first | (refine wpM_val0 Ext.refl rfl ?_) | (refine wpM_val1 Ext.refl rfl rfl ?_)); apply Exists.intro; refine ⟨?_, ?_⟩; · (intro a w' hR; intro h1; (first | (have e1 : _ = _ := h1) | skip); intro h2; (first | (have e2 : _ = _ := h2) | skip); intro h3; (first | (have e3 : _ = _ := h3) | skip); go_simp; rfl)) | (refine wpM_skip1 rfl ?_) | (refine wpM_skipU rfl ?_))
        refine wpM_done ?_
        intro w5 hx5
        iterate 6 (rintro _ rfl)
        dsimp only [FinV]
        go_simp
        have HX5 := Lib.hid (HE.out.trans hx5)
        clear hx5
        go_wp2
        have hn := HNJ.out
        exact ⟨⟨j + 1, n + 1, by omega, .inr (by omega), by go_num, HYS.out, HX5.out⟩, by simp [intOf]; omega⟩
    · have g1 : ¬ (n : Int) < (l.length : Int) := by omega
      have HY := Lib.hid (show Rec.Asc l by
        by_cases h1 : l.length ≤ 1
        · exact rasc_short h1
        · have := HA.out
          rwa [List.take_of_length_le (by omega)] at this)
      clear hext hn
      go_wp2
      go_ret
      exact .inr ⟨rfl, HY.out, HE.out⟩

set_option maxRecDepth 100000 in
set_option maxHeartbeats 2000000 in
theorem rsame_any (v u : Value) (l r : List Rec.R) (w : World) (hv : RP w v l) (hu : RP w u r) (hl : l.length ≤ 1000000) (hr : r.length ≤ 1000000) :
    Calls Try.prog 31 #[v, u] w fun e w' => e = .returned (.bool (decide (Rec.srt l = Rec.srt r))) ∧ Ext w w' := by
  obtain ⟨A, c, rfl⟩ := hv.form
  obtain ⟨B, d, rfl⟩ := hu.form
  by_cases hlen : l.length = r.length
  · have HV := Lib.hid hv
    have HU := Lib.hid hu
    have g1 : ((l.length : Int) == (r.length : Int)) = true := by rw [hlen]; exact beq_self_eq_true _
    have HSL := Lib.hid (fun w hv => rsort_any l (.slice A l.length c) w hv hl)
    have HSR := Lib.hid (fun w hu => rsort_any r (.slice B r.length d) w hu hr)
    clear hv hu hlen hl hr
    go_enter Try.func31, Try.ntmps31
    go_wp2_with fail
    refine (HSL.out _ HV.out).mono ?_
    rintro e1 w1 ⟨v1, rfl, ho1, he1⟩
    go_wp2_with fail
    refine (HSR.out _ (HU.out.ext he1)).mono ?_
    rintro e2 w2 ⟨v2, rfl, ho2, he2⟩
    go_wp2_with fail
    refine (exact_any _ _ _ _ _ (ho1.ext he2).rp ho2.rp).mono ?_
    rintro e3 w3 ⟨rfl, he3⟩
    go_wp2
    go_ret
    exact ⟨rfl, (he1.trans he2).trans he3⟩
  · have g1 : ((l.length : Int) == (r.length : Int)) = false := by rw [beq_eq_false_iff_ne]; omega
    have HN := Lib.hid (show ¬ Rec.srt l = Rec.srt r from fun h => hlen (by rw [← Rec.srt_len l, ← Rec.srt_len r, h]))
    clear hv hu hlen
    go_enter Try.func31, Try.ntmps31
    go_wp2
    go_ret
    exact ⟨by rw [decide_eq_false HN.out]; rfl, Ext.refl _⟩
end Go.Proofs.Ytacpomonidmjaaa
namespace Go.Proofs.Ytacpomonidmjaaa
open Go.RowKit Go.Ox Go.Shelf
attribute [local irreducible] OP RP
set_option linter.unusedVariables false
set_option linter.unusedSimpArgs false
end Go.Proofs.Ytacpomonidmjaaa
namespace Go.Proofs.Ytacpomonidmjaaa
open Go.RowKit Go.Ox Go.Shelf
attribute [local irreducible] OP RP
set_option linter.unusedVariables false
set_option linter.unusedSimpArgs false

theorem rasc_down {l : List Rec.R} {j : Nat} (h : j + 1 < l.length) (ha : Rec.Asc (l.drop (j + 1))) (hc : ¬ Mom.lt l[j + 1] l[j]) : Rec.Asc (l.drop j) := by
  rw [List.drop_eq_getElem_cons (by omega)]
  refine List.pairwise_cons.2 ⟨?_, ha⟩
  intro y hy
  rw [List.drop_eq_getElem_cons h] at ha hy
  rcases List.mem_cons.1 hy with q | q
  · rw [q]; exact hc
  · exact Rec.not_lt_trans hc ((List.pairwise_cons.1 ha).1 y q)
theorem rasc_last (l : List Rec.R) : Rec.Asc (l.drop (l.length - 1)) := rasc_short (by rw [List.length_drop]; omega)

end Go.Proofs.Ytacpomonidmjaaa
namespace Go.Proofs.Ytacpomonidmjaaa
open Go.RowKit Go.Ox Go.Shelf
attribute [local irreducible] OP RP
set_option linter.unusedVariables false
set_option linter.unusedSimpArgs false

/-- of the first k in order: each that is not as the one ahead of it -/
def disUp (s : List Rec.R) : Nat → List Rec.R
  | 0 => []
  | k + 1 => disUp s k ++ (match s[k]? with
    | some y => if k = 0 ∨ s[k - 1]? ≠ some y then [y] else []
    | none => [])
theorem disUp_len (s : List Rec.R) : ∀ k, (disUp s k).length ≤ k
  | 0 => Nat.le_refl _
  | k + 1 => by
    have := disUp_len s k
    unfold disUp
    rw [List.length_append]
    split
    · split <;> simp <;> omega
    · simp; omega
theorem disUp_0 {s : List Rec.R} (h : 0 < s.length) : disUp s 1 = [s[0]] := by simp [disUp, h]
theorem disUp_t {s : List Rec.R} {j : Nat} (h : j + 1 < s.length) (hq : s[j + 1] = s[j]) : disUp s (j + 1 + 1) = disUp s (j + 1) := by
  conv => lhs; unfold disUp
  rw [List.getElem?_eq_getElem h]
  have : s[j + 1 - 1]? = some s[j + 1] := by rw [Nat.add_sub_cancel, List.getElem?_eq_getElem (by omega), hq]
  simp [hq, List.getElem?_eq_getElem (show j < s.length by omega)]
theorem disUp_f {s : List Rec.R} {j : Nat} (h : j + 1 < s.length) (hq : ¬ s[j + 1] = s[j]) : disUp s (j + 1 + 1) = disUp s (j + 1) ++ [s[j + 1]] := by
  conv => lhs; unfold disUp
  rw [List.getElem?_eq_getElem h]
  have : s[j]? ≠ some s[j + 1] := by rw [List.getElem?_eq_getElem (by omega)]; intro e; injection e with e; exact hq e.symm
  simp [this]
/-- each record once, in order -/
def dis (l : List Rec.R) : List Rec.R := disUp (Rec.srt l) l.length
end Go.Proofs.Ytacpomonidmjaaa
