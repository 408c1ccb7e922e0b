/-
  The walks on records: how often one is there; the document's word on which bags may be.
  The walks of the document's answer on records: in order; the same bag.
  slices.Equal at records; whether two bags are the same. (Printed by gen_recsame.py.)
  rec.Sorted (slices.IsSortedFunc at records).
  The document's Distinct on records.
-/
import Derived.Test.YtgmaeeihfoicmaaRecRef
namespace Go.Proofs.Ytgmaeeihfoicmaa
open Go.RowKit Go.Ox Go.Shelf
attribute [local irreducible] OP RP
set_option linter.unusedVariables false
set_option linter.unusedSimpArgs false

/-- how often -/
def cntR (l : List Rec.R) (r : Rec.R) : Nat := l.countP fun x => decide (x = r)
theorem cntR_s (l : List Rec.R) (r : Rec.R) (k : Nat) (h : k < l.length) : cntR (l.take (k + 1)) r = cntR (l.take k) r + (if l[k] = r then 1 else 0) := by
  unfold cntR
  rw [List.take_succ_eq_append_getElem h, List.countP_append]
  by_cases hq : l[k] = r <;> simp [hq]
theorem cntR_le (l : List Rec.R) (r : Rec.R) (k : Nat) : cntR (l.take k) r ≤ k := by
  unfold cntR
  have := List.countP_le_length (p := fun x => decide (x = r)) (l := l.take k)
  rw [List.length_take] at this
  omega
theorem all_take_r (l : List Rec.R) (p : Rec.R → Bool) (k : Nat) (h : k < l.length) : (l.take (k + 1)).all p = ((l.take k).all p && p l[k]) := by
  rw [List.take_succ_eq_append_getElem h, List.all_append]; simp

set_option maxRecDepth 100000 in
set_option maxHeartbeats 2000000 in
theorem rcount_any (v : Value) (l : List Rec.R) (r : Rec.R) (w : World) (hv : RP w v l) (hl : l.length ≤ 1000000) :
    Calls Try.prog 39 #[v, mV r] w fun e w' => e = .returned (.int .i64 (cntR l r : Int)) ∧ Ext w w' := by
  obtain ⟨A, c, rfl⟩ := hv.form
  obtain ⟨r1, r2⟩ := r
  have hx0 := (Ext.refl w).alloc (.cells #[.int .i64 r1, .int .i64 r2] 23)
  have HX0 := Lib.hid hx0
  have HV := Lib.hid (hv.ext hx0)
  have HB := Lib.hid (Blk.new w 23 #[.int .i64 r1, .int .i64 r2])
  have hE := eqM
  have hG := guardM
  clear hv hx0
  go_enter Try.func39, Try.ntmps39
  go_wp2
  generalize w.alloc (.cells #[.int .i64 r1, .int .i64 r2] 23) = w0 at *
  go_loopw [5, 6] (fun o iv wr => ∃ k : Nat, k ≤ l.length ∧ iv = .int .i64 k ∧ o = .int .i64 (cntR (l.take k) (r1, r2) : Int) ∧ Ext w0 wr) (fun _ iv _ => l.length - (intOf iv).toNat)
  case atStart => exact ⟨0, Nat.zero_le _, rfl, rfl, Ext.refl _⟩
  case round =>
    obtain ⟨k, hk, rfl, rfl, hext⟩ := hrel
    have HE := Lib.hid hext
    by_cases hlt : k < l.length
    · have g1 : (k : Int) < (l.length : Int) := by omega
      have g0 : 0 ≤ (k : Int) := by omega
      obtain ⟨bA, oA, rfl, c0, c1⟩ := (HV.out.ext hext).at_ hlt
      have d0 : wr.cell? ⟨w.heap.size, 0, none⟩ = some (.int .i64 r1) := (HB.out.ext hext).cell 0
      have d1 : wr.cell? ⟨w.heap.size, 1, none⟩ = some (.int .i64 r2) := (HB.out.ext hext).cell 1
      have HS := Lib.hid (cntR_s l (r1, r2) k hlt)
      have hle := cntR_le l (r1, r2) k
      generalize cntR (l.take k) (r1, r2) = n at *
      generalize l[k] = x at *
      obtain ⟨x1, x2⟩ := x
      dsimp only at *
      clear hext
      by_cases hq : (x1, x2) = (r1, r2)
      · have hd := pairB_t hq
        rw [if_pos hq] at HS
        clear hq
        go_wp2
        refine wp_region_ext (by kernel_rfl) (by rfl) (by rfl) (by kernel_rfl) ?_
        repeat (first | ((first | (refine wpM_move00 Ext.refl rfl rfl rfl ?_) | (refine wpM_move01 Ext.refl rfl rfl rfl rfl ?_)); apply Exists.intro; refine ⟨?_, ?_⟩; · (go_simp; rfl)) | (first | (refine wpM_movek0 Ext.refl rfl rfl rfl ?_) | (refine wpM_movek1 Ext.refl rfl rfl rfl rfl ?_)) | ((first | (refine wpM_val0 Ext.refl rfl ?_) | (refine wpM_val1 Ext.refl rfl rfl ?_)); apply Exists.intro; refine ⟨?_, ?_⟩; · (intro a w' hR; intro h1; (first | (have e1 : _ = _ := h1) | skip); intro h2; (first | (have e2 : _ = _ := h2) | skip); go_simp; rfl)) | ((first | (refine wpM_val0 Ext.refl rfl ?_) | (refine wpM_val1 Ext.refl rfl rfl ?_)); apply Exists.intro; refine ⟨?_, ?_⟩; · (intro a w' hR; intro h1; (first | (have e1 : _ = _ := h1) | skip); go_simp; rfl)) | ((first | (refine wpM_val0 Ext.refl rfl ?_) | (refine wpM_val1 Ext.refl rfl rfl ?_)); apply Exists.intro; refine ⟨?_, ?_⟩; · (intro a w' hR; go_simp; rfl)) | ((first | (refine wpM_val0 Ext.refl rfl ?_) | (refine wpM_val1 Ext.refl rfl rfl ?_)); apply Exists.intro; refine ⟨?_, ?_⟩; · (intro a w' hR; intro h1; (first | (have e1 : _ = _ := h1) | skip); intro h2; (first | (have e2 : _ = _ := h2) | skip); intro h3; (first | (have e3 : _ = _ := h3) | skip); go_simp; rfl)) | (refine wpM_skip1 rfl ?_) | (refine wpM_skipU rfl ?_))
        (first | (refine wpM_val0 Ext.refl rfl ?_) | (refine wpM_val1 Ext.refl rfl rfl ?_)); apply Exists.intro; refine ⟨?_, ?_⟩
        · intro a w' hR h1
          have e1 : _ = _ := h1
          have hl0 := hR.cell c0
          have hl1 := hR.cell c1
          go_simp
          rfl
        (first | (refine wpM_val0 Ext.refl rfl ?_) | (refine wpM_val1 Ext.refl rfl rfl ?_)); apply Exists.intro; refine ⟨?_, ?_⟩
        · intro a w' hR h1
          have e1 : _ = _ := h1
          have hl0 := hR.cell d0
          have hl1 := hR.cell d1
          go_simp
          rfl
        repeat (first | ((first | (refine wpM_move00 Ext.refl rfl rfl rfl ?_) | (refine wpM_move01 Ext.refl rfl rfl rfl rfl ?_)); apply Exists.intro; refine ⟨?_, ?_⟩; · (go_simp; rfl)) | (first | (refine wpM_movek0 Ext.refl rfl rfl rfl ?_) | (refine wpM_movek1 Ext.refl rfl rfl rfl rfl ?_)) | ((first | (refine wpM_val0 Ext.refl rfl ?_) | (refine wpM_val1 Ext.refl rfl rfl ?_)); apply Exists.intro; refine ⟨?_, ?_⟩; · (intro a w' hR; intro h1; (first | (have e1 : _ = _ := h1) | skip); intro h2; (first | (have e2 : _ = _ := h2) | skip); go_simp; rfl)) | ((first | (refine wpM_val0 Ext.refl rfl ?_) | (refine wpM_val1 Ext.refl rfl rfl ?_)); apply Exists.intro; refine ⟨?_, ?_⟩; · (intro a w' hR; intro h1; (first | (have e1 : _ = _ := h1) | skip); go_simp; rfl)) | ((first | (refine wpM_val0 Ext.refl rfl ?_) | (refine wpM_val1 Ext.refl rfl rfl ?_)); apply Exists.intro; refine ⟨?_, ?_⟩; · (intro a w' hR; go_simp; rfl)) | ((first | (refine wpM_val0 Ext.refl rfl ?_) | (refine wpM_val1 Ext.refl rfl rfl ?_)); apply Exists.intro; refine ⟨?_, ?_⟩; · (intro a w' hR; intro h1; (first | (have e1 : _ = _ := h1) | skip); intro h2; (first | (have e2 : _ = _ := h2) | skip); intro h3; (first | (have e3 : _ = _ := h3) | skip); go_simp; rfl)) | (refine wpM_skip1 rfl ?_) | (refine wpM_skipU rfl ?_))
        refine wpM_done ?_
        intro w5 hx5
        iterate 6 (rintro _ rfl)
        dsimp only [FinV]
        go_simp
        have HX5 := Lib.hid (HE.out.trans hx5)
        clear hx5
        go_wp2
        exact ⟨⟨k + 1, by omega, by go_num, by rw [HS.out]; go_num, HX5.out⟩, by simp [intOf]; omega⟩
      · have hd := pairB_f hq
        rw [if_neg hq] at HS
        clear hq
        go_wp2
        refine wp_region_ext (by kernel_rfl) (by rfl) (by rfl) (by kernel_rfl) ?_
        repeat (first | ((first | (refine wpM_move00 Ext.refl rfl rfl rfl ?_) | (refine wpM_move01 Ext.refl rfl rfl rfl rfl ?_)); apply Exists.intro; refine ⟨?_, ?_⟩; · (go_simp; rfl)) | (first | (refine wpM_movek0 Ext.refl rfl rfl rfl ?_) | (refine wpM_movek1 Ext.refl rfl rfl rfl rfl ?_)) | ((first | (refine wpM_val0 Ext.refl rfl ?_) | (refine wpM_val1 Ext.refl rfl rfl ?_)); apply Exists.intro; refine ⟨?_, ?_⟩; · (intro a w' hR; intro h1; (first | (have e1 : _ = _ := h1) | skip); intro h2; (first | (have e2 : _ = _ := h2) | skip); go_simp; rfl)) | ((first | (refine wpM_val0 Ext.refl rfl ?_) | (refine wpM_val1 Ext.refl rfl rfl ?_)); apply Exists.intro; refine ⟨?_, ?_⟩; · (intro a w' hR; intro h1; (first | (have e1 : _ = _ := h1) | skip); go_simp; rfl)) | ((first | (refine wpM_val0 Ext.refl rfl ?_) | (refine wpM_val1 Ext.refl rfl rfl ?_)); apply Exists.intro; refine ⟨?_, ?_⟩; · (intro a w' hR; go_simp; rfl)) | ((first | (refine wpM_val0 Ext.refl rfl ?_) | (refine wpM_val1 Ext.refl rfl rfl ?_)); apply Exists.intro; refine ⟨?_, ?_⟩; · (intro a w' hR; intro h1; (first | (have e1 : _ = _ := h1) | skip); intro h2; (first | (have e2 : _ = _ := h2) | skip); intro h3; (first | (have e3 : _ = _ := h3) | skip); go_simp; rfl)) | (refine wpM_skip1 rfl ?_) | (refine wpM_skipU rfl ?_))
        (first | (refine wpM_val0 Ext.refl rfl ?_) | (refine wpM_val1 Ext.refl rfl rfl ?_)); apply Exists.intro; refine ⟨?_, ?_⟩
        · intro a w' hR h1
          have e1 : _ = _ := h1
          have hl0 := hR.cell c0
          have hl1 := hR.cell c1
          go_simp
          rfl
        (first | (refine wpM_val0 Ext.refl rfl ?_) | (refine wpM_val1 Ext.refl rfl rfl ?_)); apply Exists.intro; refine ⟨?_, ?_⟩
        · intro a w' hR h1
          have e1 : _ = _ := h1
          have hl0 := hR.cell d0
          have hl1 := hR.cell d1
          go_simp
          rfl
        repeat (first | ((first | (refine wpM_move00 Ext.refl rfl rfl rfl ?_) | (refine wpM_move01 Ext.refl rfl rfl rfl rfl ?_)); apply Exists.intro; refine ⟨?_, ?_⟩; · (go_simp; rfl)) | (first | (refine wpM_movek0 Ext.refl rfl rfl rfl ?_) | (refine wpM_movek1 Ext.refl rfl rfl rfl rfl ?_)) | ((first | (refine wpM_val0 Ext.refl rfl ?_) | (refine wpM_val1 Ext.refl rfl rfl ?_)); apply Exists.intro; refine ⟨?_, ?_⟩; · (intro a w' hR; intro h1; (first | (have e1 : _ = _ := h1) | skip); intro h2; (first | (have e2 : _ = _ := h2) | skip); go_simp; rfl)) | ((first | (refine wpM_val0 Ext.refl rfl ?_) | (refine wpM_val1 Ext.refl rfl rfl ?_)); apply Exists.intro; refine ⟨?_, ?_⟩; · (intro a w' hR; intro h1; (first | (have e1 : _ = _ := h1) | skip); go_simp; rfl)) | ((first | (refine wpM_val0 Ext.refl rfl ?_) | (refine wpM_val1 Ext.refl rfl rfl ?_)); apply Exists.intro; refine ⟨?_, ?_⟩; · (intro a w' hR; go_simp; rfl)) | ((first | (refine wpM_val0 Ext.refl rfl ?_) | (refine wpM_val1 Ext.refl rfl rfl ?_)); apply Exists.intro; refine ⟨?_, ?_⟩; · (intro a w' hR; intro h1; (first | (have e1 : _ = _ := h1) | skip); intro h2; (first | (have e2 : _ = _ := h2) | skip); intro h3; (first | (have e3 : _ = _ := h3) | skip); go_simp; rfl)) | (refine wpM_skip1 rfl ?_) | (refine wpM_skipU rfl ?_))
        refine wpM_done ?_
        intro w5 hx5
        iterate 6 (rintro _ rfl)
        dsimp only [FinV]
        go_simp
        have HX5 := Lib.hid (HE.out.trans hx5)
        clear hx5
        go_wp2
        exact ⟨⟨k + 1, by omega, by go_num, by rw [HS.out, Nat.add_zero], HX5.out⟩, by simp [intOf]; omega⟩
    · obtain rfl : k = l.length := by omega
      have g1 : ¬ (l.length : Int) < (l.length : Int) := by omega
      rw [List.take_length]
      clear hext
      go_wp2
      go_ret
      exact ⟨rfl, HX0.out.trans HE.out⟩

set_option maxRecDepth 100000 in
set_option maxHeartbeats 2000000 in
theorem count_any (v : Value) (l : List Rec.R) (r : Rec.R) (w : World) (hv : RP w v l) (hl : l.length ≤ 1000000) :
    Calls Try.prog 38 #[v, mV r] w fun e w' => e = .returned (.int .i64 (cntR l r : Int)) ∧ Ext w w' := by
  obtain ⟨A, c, rfl⟩ := hv.form
  obtain ⟨r1, r2⟩ := r
  have hx0 := (Ext.refl w).alloc (.cells #[.int .i64 r1, .int .i64 r2] 23)
  have HX0 := Lib.hid hx0
  have HV := Lib.hid (hv.ext hx0)
  have HB := Lib.hid (Blk.new w 23 #[.int .i64 r1, .int .i64 r2])
  have hE := eqM
  have hG := guardM
  clear hv hx0
  go_enter Try.func38, Try.ntmps38
  go_wp2
  generalize w.alloc (.cells #[.int .i64 r1, .int .i64 r2] 23) = w0 at *
  go_loopw [5, 10] (fun o iv wr => ∃ k : Nat, k ≤ l.length ∧ iv = .int .i64 k ∧ o = .int .i64 (cntR (l.take k) (r1, r2) : Int) ∧ Ext w0 wr) (fun _ iv _ => l.length - (intOf iv).toNat)
  case atStart => exact ⟨0, Nat.zero_le _, rfl, rfl, Ext.refl _⟩
  case round =>
    obtain ⟨k, hk, rfl, rfl, hext⟩ := hrel
    have HE := Lib.hid hext
    by_cases hlt : k < l.length
    · have g1 : (k : Int) < (l.length : Int) := by omega
      have g0 : 0 ≤ (k : Int) := by omega
      obtain ⟨bA, oA, rfl, c0, c1⟩ := (HV.out.ext hext).at_ hlt
      have HS := Lib.hid (cntR_s l (r1, r2) k hlt)
      have hle := cntR_le l (r1, r2) k
      generalize cntR (l.take k) (r1, r2) = n at *
      generalize l[k] = x at *
      obtain ⟨x1, x2⟩ := x
      dsimp only at *
      have hxn : Ext wr (wr.alloc (.cells #[.int .i64 x1, .int .i64 x2] 23)) := (Ext.refl _).alloc _
      have d0 : (wr.alloc (.cells #[.int .i64 x1, .int .i64 x2] 23)).cell? ⟨w.heap.size, 0, none⟩ = some (.int .i64 r1) := ((HB.out.ext hext).ext hxn).cell 0
      have d1 : (wr.alloc (.cells #[.int .i64 x1, .int .i64 x2] 23)).cell? ⟨w.heap.size, 1, none⟩ = some (.int .i64 r2) := ((HB.out.ext hext).ext hxn).cell 1
      have HXN := Lib.hid (HE.out.trans hxn)
      clear hext hxn
      by_cases hq : (x1, x2) = (r1, r2)
      · have hd := pairB_t hq
        rw [if_pos hq] at HS
        clear hq
        go_wp2
        exact ⟨⟨k + 1, by omega, by go_num, by rw [HS.out]; go_num, HXN.out⟩, by simp [intOf]; omega⟩
      · have hd := pairB_f hq
        rw [if_neg hq] at HS
        clear hq
        go_wp2
        exact ⟨⟨k + 1, by omega, by go_num, by rw [HS.out, Nat.add_zero], HXN.out⟩, by simp [intOf]; omega⟩
    · obtain rfl : k = l.length := by omega
      have g1 : ¬ (l.length : Int) < (l.length : Int) := by omega
      rw [List.take_length]
      clear hext
      go_wp2
      go_ret
      exact ⟨rfl, HX0.out.trans HE.out⟩

set_option maxRecDepth 100000 in
set_option maxHeartbeats 2000000 in
theorem rmay_any (v : Value) (l : List Rec.R) (w : World) (hv : RP w v l) (hl : l.length ≤ 1000000) :
    Calls Try.prog 15 #[v] w fun e w' => e = .returned (.int .i64 (Rec.may l)) ∧ Ext w w' := by
  obtain ⟨A, c, rfl⟩ := hv.form
  have HV := Lib.hid hv
  clear hv
  go_enter Try.func15, Try.ntmps15
  go_wp2
  go_loopw [3] (fun iv wr => ∃ k : Nat, k ≤ l.length ∧ iv = .int .i64 k ∧ (l.take k).all Rec.ok = true ∧ Ext w wr) (fun iv _ => l.length - (intOf iv).toNat)
  case atStart => exact ⟨0, Nat.zero_le _, rfl, rfl, Ext.refl _⟩
  case round =>
    obtain ⟨k, hk, rfl, hok, hext⟩ := hrel
    have HE := Lib.hid hext
    have HOK := Lib.hid hok
    clear hok
    by_cases hlt : k < l.length
    · have g1 : (k : Int) < (l.length : Int) := by omega
      have g0 : 0 ≤ (k : Int) := by omega
      obtain ⟨bA, oA, rfl, c0, c1⟩ := (HV.out.ext hext).at_ hlt
      have HS := Lib.hid (all_take_r l Rec.ok k hlt)
      have HBAD := Lib.hid (show Rec.ok l[k] = false → Rec.may l = 30 from fun hq => by
        unfold Rec.may
        rw [if_pos (List.any_eq_true.2 ⟨l[k], List.getElem_mem hlt, by rw [hq]; rfl⟩)])
      generalize l[k] = x at *
      obtain ⟨x1, x2⟩ := x
      dsimp only at *
      have HCK := Lib.hid (fun w => rcheck_any (x1, x2) w)
      clear hext
      cases hq : Rec.ok (x1, x2) with
      | true =>
        rw [hq] at HCK
        have HN := Lib.hid (show (l.take (k + 1)).all Rec.ok = true by rw [HS.out, hq, HOK.out]; rfl)
        clear hq
        go_wp2_with fail
        refine (HCK.out _).mono ?_
        rintro e w6 ⟨rfl, he6⟩
        go_wp2_with fail
        exact ⟨⟨k + 1, by omega, by go_num, HN.out, HE.out.trans he6⟩, by simp [intOf]; omega⟩
      | false =>
        rw [hq] at HCK
        have HM := Lib.hid (HBAD.out hq)
        clear hq
        go_wp2_with fail
        refine (HCK.out _).mono ?_
        rintro e w6 ⟨rfl, he6⟩
        go_wp2_with fail
        go_ret
        rw [HM.out]
        exact ⟨rfl, HE.out.trans he6⟩
    · obtain rfl : k = l.length := by omega
      have g1 : ¬ (l.length : Int) < (l.length : Int) := by omega
      have hany : (l.any fun x => !Rec.ok x) = false := by
        have := HOK.out
        rw [List.take_length] at this
        rw [List.any_eq_false]
        intro x hx
        have := List.all_eq_true.1 this x hx
        simp [this]
      clear hext
      by_cases h2 : 4096 < l.length
      · have g : (4096 : Int) < (l.length : Int) := by omega
        have HM := Lib.hid (show Rec.may l = 31 by unfold Rec.may; rw [hany, if_neg (by simp), if_pos h2])
        clear hany h2
        go_wp2
        go_ret
        rw [HM.out]
        exact ⟨rfl, HE.out⟩
      · have g : ¬ (4096 : Int) < (l.length : Int) := by omega
        have HM := Lib.hid (show Rec.may l = 0 by unfold Rec.may; rw [hany, if_neg (by simp), if_neg h2])
        clear hany h2
        go_wp2
        go_ret
        rw [HM.out]
        exact ⟨rfl, HE.out⟩
end Go.Proofs.Ytgmaeeihfoicmaa
namespace Go.Proofs.Ytgmaeeihfoicmaa
open Go.RowKit Go.Ox Go.Shelf
attribute [local irreducible] OP RP
set_option linter.unusedVariables false
set_option linter.unusedSimpArgs false

theorem rasc_s {l : List Rec.R} {j : Nat} (h : j + 1 < l.length) (ha : Rec.Asc (l.take (j + 1))) (hc : ¬ Mom.lt l[j + 1] l[j]) : Rec.Asc (l.take (j + 1 + 1)) := by
  rw [List.take_succ_eq_append_getElem h]
  refine List.pairwise_append.2 ⟨ha, List.pairwise_singleton _ _, ?_⟩
  intro x hx y hy
  rw [List.mem_singleton.1 hy]
  refine Rec.not_lt_trans ?_ hc
  rw [List.take_succ_eq_append_getElem (by omega)] at ha hx
  rcases List.mem_append.1 hx with q | q
  · exact (List.pairwise_append.1 ha).2.2 x q _ (List.mem_singleton.2 rfl)
  · rw [List.mem_singleton.1 q]; unfold Mom.lt; omega
theorem rasc_not {l : List Rec.R} {j : Nat} (h : j + 1 < l.length) (hc : Mom.lt l[j + 1] l[j]) : ¬ Rec.Asc l := fun ha =>
  (List.pairwise_iff_getElem.1 ha j (j + 1) (by omega) h (by omega)) hc
theorem rasc_1 (l : List Rec.R) : Rec.Asc (l.take 1) := by
  match l with
  | [] => exact List.Pairwise.nil
  | x :: r => exact List.pairwise_singleton _ _
theorem rasc_short {l : List Rec.R} (h : l.length ≤ 1) : Rec.Asc l := by
  match l, h with
  | [], _ => exact List.Pairwise.nil
  | [x], _ => exact List.pairwise_singleton _ _

set_option maxRecDepth 100000 in
set_option maxHeartbeats 4000000 in
theorem rsorted_any (v : Value) (l : List Rec.R) (w : World) (hv : RP w v l) (hl : l.length ≤ 1000000) :
    Calls Try.prog 37 #[v] w fun e w' => ∃ b, e = .returned (.bool b) ∧ (b = true ↔ Rec.Asc l) ∧ Ext w w' := by
  obtain ⟨A, c, rfl⟩ := hv.form
  have HV := Lib.hid hv
  have HL := Lib.hid hl
  clear hv
  go_enter Try.func37, Try.ntmps37
  go_wp2
  go_loopw [3] (fun iv wr => ∃ j n : Nat, n = j + 1 ∧ (j = 0 ∨ j < l.length) ∧ iv = .int .i64 (n : Int) ∧ Rec.Asc (l.take (j + 1)) ∧ Ext w wr) (fun iv _ => l.length + 1 - (intOf iv).toNat)
  case atStart => exact ⟨0, 1, rfl, .inl rfl, rfl, rasc_1 l, Ext.refl _⟩
  case round =>
    obtain ⟨j, n, hn, hj, rfl, hasc, hext⟩ := hrel
    have HNJ := Lib.hid hn
    have HE := Lib.hid hext
    have HA := Lib.hid hasc
    clear hasc
    by_cases hlt : j + 1 < l.length
    · have g0 : 0 ≤ (j : Int) := by omega
      have g1 : (j : Int) < (l.length : Int) := by omega
      have g2 : (n : Int) < (l.length : Int) := by omega
      have g3 : 0 ≤ (n : Int) := by omega
      obtain ⟨bA, oA, rfl, c0, c1⟩ := (HV.out.ext hext).at_ (k := j) (by omega)
      obtain ⟨bB, oB, hq2, d0, d1⟩ := (HV.out.ext hext).at_ hlt
      cases hq2
      have HS := Lib.hid (fun hc => rasc_s hlt HA.out hc)
      have HN := Lib.hid (fun hc => rasc_not hlt hc)
      have HCM := Lib.hid (fun w => rcompare_any l[j] l[j + 1] w)
      have HQ := Lib.hid (show 0 < Mom.cmp l[j] l[j + 1] ↔ Mom.lt l[j + 1] l[j] by rw [← Mom.cmp_lt, Mom.cmp_flip l[j] l[j + 1]]; omega)
      have hwr : IntKind.i64.wrap ((n : Int) - 1) = (j : Int) := by rw [IntWalk.i64_in _ (by omega)]; omega
      have HJ := Lib.hid hlt
      generalize l[j] = x at *
      generalize l[j + 1] = y at *
      obtain ⟨x1, x2⟩ := x
      obtain ⟨y1, y2⟩ := y
      dsimp only at *
      rw [← hn] at d0 d1
      generalize Mom.cmp (x1, x2) (y1, y2) = z at *
      clear hext
      clear hn
      by_cases hz : 0 < z
      · have HNO := Lib.hid (HN.out (HQ.out.1 hz))
        clear HS HN HQ
        go_wp2
        refine wp_region_ext (by kernel_rfl) (by rfl) (by rfl) (by kernel_rfl) ?_
        repeat (first | ((first | (refine wpM_move00 Ext.refl rfl rfl rfl ?_) | (refine wpM_move01 Ext.refl rfl rfl rfl rfl ?_)); apply Exists.intro; refine ⟨?_, ?_⟩; · (go_simp; rfl)) | (first | (refine wpM_movek0 Ext.refl rfl rfl rfl ?_) | (refine wpM_movek1 Ext.refl rfl rfl rfl rfl ?_)) | ((first | (refine wpM_val0 Ext.refl rfl ?_) | (refine wpM_val1 Ext.refl rfl rfl ?_)); apply Exists.intro; refine ⟨?_, ?_⟩; · (intro a w' hR; intro h1; (first | (have e1 : _ = _ := h1) | skip); intro h2; (first | (have e2 : _ = _ := h2) | skip); go_simp; rfl)) | ((first | (refine wpM_val0 Ext.refl rfl ?_) | (refine wpM_val1 Ext.refl rfl rfl ?_)); apply Exists.intro; refine ⟨?_, ?_⟩; · (intro a w' hR; intro h1; (first | (have e1 : _ = _ := h1) | skip); go_simp; rfl)) | ((first | (refine wpM_val0 Ext.refl rfl ?_) | (refine wpM_val1 Ext.refl rfl rfl ?_)); apply Exists.intro; refine ⟨?_, ?_⟩; · (intro a w' hR; go_simp; rfl)) | ((first | (refine wpM_val0 Ext.refl rfl ?_) | (refine wpM_val1 Ext.refl rfl rfl ?_)); apply Exists.intro; refine ⟨?_, ?_⟩; · (intro a w' hR; intro h1; (first | (have e1 : _ = _ := h1) | skip); intro h2; (first | (have e2 : _ = _ := h2) | skip); intro h3; (first | (have e3 : _ = _ := h3) | skip); go_simp; rfl)) | (refine wpM_skip1 rfl ?_) | (refine wpM_skipU rfl ?_))
        (first | (refine wpM_val0 Ext.refl rfl ?_) | (refine wpM_val1 Ext.refl rfl rfl ?_)); apply Exists.intro; refine ⟨?_, ?_⟩
        · intro a w' hR h1
          have e1 : _ = _ := h1
          have hl0 := hR.cell c0
          have hl1 := hR.cell c1
          go_simp
          rfl
        repeat (first | ((first | (refine wpM_move00 Ext.refl rfl rfl rfl ?_) | (refine wpM_move01 Ext.refl rfl rfl rfl rfl ?_)); apply Exists.intro; refine ⟨?_, ?_⟩; · (go_simp; rfl)) | (first | (refine wpM_movek0 Ext.refl rfl rfl rfl ?_) | (refine wpM_movek1 Ext.refl rfl rfl rfl rfl ?_)) | ((first | (refine wpM_val0 Ext.refl rfl ?_) | (refine wpM_val1 Ext.refl rfl rfl ?_)); apply Exists.intro; refine ⟨?_, ?_⟩; · (intro a w' hR; intro h1; (first | (have e1 : _ = _ := h1) | skip); intro h2; (first | (have e2 : _ = _ := h2) | skip); go_simp; rfl)) | ((first | (refine wpM_val0 Ext.refl rfl ?_) | (refine wpM_val1 Ext.refl rfl rfl ?_)); apply Exists.intro; refine ⟨?_, ?_⟩; · (intro a w' hR; intro h1; (first | (have e1 : _ = _ := h1) | skip); go_simp; rfl)) | ((first | (refine wpM_val0 Ext.refl rfl ?_) | (refine wpM_val1 Ext.refl rfl rfl ?_)); apply Exists.intro; refine ⟨?_, ?_⟩; · (intro a w' hR; go_simp; rfl)) | ((first | (refine wpM_val0 Ext.refl rfl ?_) | (refine wpM_val1 Ext.refl rfl rfl ?_)); apply Exists.intro; refine ⟨?_, ?_⟩; · (intro a w' hR; intro h1; (first | (have e1 : _ = _ := h1) | skip); intro h2; (first | (have e2 : _ = _ := h2) | skip); intro h3; (first | (have e3 : _ = _ := h3) | skip); go_simp; rfl)) | (refine wpM_skip1 rfl ?_) | (refine wpM_skipU rfl ?_))
        (first | (refine wpM_val0 Ext.refl rfl ?_) | (refine wpM_val1 Ext.refl rfl rfl ?_)); apply Exists.intro; refine ⟨?_, ?_⟩
        · intro a w' hR h1
          have e1 : _ = _ := h1
          have hl0 := hR.cell d0
          have hl1 := hR.cell d1
          go_simp
          rfl
        first | (refine wpM_call0 (fun v _ => v = .int .i64 z) rfl (by first | exact mono_eq | exact (fun _ _ _ ⟨n, h1, h2, h3⟩ k => ⟨n, h1, h2, h3.ext k⟩) | exact (fun _ _ _ h k => RB.ext h k) | exact (fun _ _ _ h k => OB.ext h k) | exact (fun _ _ _ h k => Rd.ext h k) | exact (fun _ _ _ h k => ownsRow_ext h k) | exact (fun _ _ _ h k => RB.extC h k) | exact (fun _ _ _ h k => FB.extC h k) | exact (fun _ _ _ h k => Rd.extC h k) | exact (fun _ _ _ h k => RP.ext h k) | exact (fun _ _ _ h k => RE.ext h k)) ?_ ?_) | (refine wpM_call1 (fun v _ => v = .int .i64 z) rfl rfl (by first | exact mono_eq | exact (fun _ _ _ ⟨n, h1, h2, h3⟩ k => ⟨n, h1, h2, h3.ext k⟩) | exact (fun _ _ _ h k => RB.ext h k) | exact (fun _ _ _ h k => OB.ext h k) | exact (fun _ _ _ h k => Rd.ext h k) | exact (fun _ _ _ h k => ownsRow_ext h k) | exact (fun _ _ _ h k => RB.extC h k) | exact (fun _ _ _ h k => FB.extC h k) | exact (fun _ _ _ h k => Rd.extC h k) | exact (fun _ _ _ h k => RP.ext h k) | exact (fun _ _ _ h k => RE.ext h k)) ?_ ?_)
        · intro a w' hR h1 h2 K hK
          have e1 : _ = _ := h1
          have e2 : _ = _ := h2
          go_simp
          refine (HCM.out w').mono ?_
          rintro e w2 ⟨rfl, he⟩
          exact hK _ _ he rfl
        repeat (first | ((first | (refine wpM_move00 Ext.refl rfl rfl rfl ?_) | (refine wpM_move01 Ext.refl rfl rfl rfl rfl ?_)); apply Exists.intro; refine ⟨?_, ?_⟩; · (go_simp; rfl)) | (first | (refine wpM_movek0 Ext.refl rfl rfl rfl ?_) | (refine wpM_movek1 Ext.refl rfl rfl rfl rfl ?_)) | ((first | (refine wpM_val0 Ext.refl rfl ?_) | (refine wpM_val1 Ext.refl rfl rfl ?_)); apply Exists.intro; refine ⟨?_, ?_⟩; · (intro a w' hR; intro h1; (first | (have e1 : _ = _ := h1) | skip); intro h2; (first | (have e2 : _ = _ := h2) | skip); go_simp; rfl)) | ((first | (refine wpM_val0 Ext.refl rfl ?_) | (refine wpM_val1 Ext.refl rfl rfl ?_)); apply Exists.intro; refine ⟨?_, ?_⟩; · (intro a w' hR; intro h1; (first | (have e1 : _ = _ := h1) | skip); go_simp; rfl)) | ((first | (refine wpM_val0 Ext.refl rfl ?_) | (refine wpM_val1 Ext.refl rfl rfl ?_)); apply Exists.intro; refine ⟨?_, ?_⟩; · (intro a w' hR; go_simp; rfl)) | ((first | (refine wpM_val0 Ext.refl rfl ?_) | (refine wpM_val1 Ext.refl rfl rfl ?_)); apply Exists.intro; refine ⟨?_, ?_⟩; · (intro a w' hR; intro h1; (first | (have e1 : _ = _ := h1) | skip); intro h2; (first | (have e2 : _ = _ := h2) | skip); intro h3; (first | (have e3 : _ = _ := h3) | skip); go_simp; rfl)) | (refine wpM_skip1 rfl ?_) | (refine wpM_skipU rfl ?_))
        refine wpM_done ?_
        intro w5 hx5
        iterate 6 (rintro _ rfl)
        dsimp only [FinV]
        go_simp
        have HX5 := Lib.hid (HE.out.trans hx5)
        clear hx5
        go_wp2
        go_ret
        exact ⟨_, rfl, ⟨fun h => by simp at h, fun h => absurd h HNO.out⟩, HX5.out⟩
      · have HYS := Lib.hid (HS.out fun h => hz (HQ.out.2 h))
        clear HS HN HQ
        go_wp2
        refine wp_region_ext (by kernel_rfl) (by rfl) (by rfl) (by kernel_rfl) ?_
        repeat (first | ((first | (refine wpM_move00 Ext.refl rfl rfl rfl ?_) | (refine wpM_move01 Ext.refl rfl rfl rfl rfl ?_)); apply Exists.intro; refine ⟨?_, ?_⟩; · (go_simp; rfl)) | (first | (refine wpM_movek0 Ext.refl rfl rfl rfl ?_) | (refine wpM_movek1 Ext.refl rfl rfl rfl rfl ?_)) | ((first | (refine wpM_val0 Ext.refl rfl ?_) | (refine wpM_val1 Ext.refl rfl rfl ?_)); apply Exists.intro; refine ⟨?_, ?_⟩; · (intro a w' hR; intro h1; (first | (have e1 : _ = _ := h1) | skip); intro h2; (first | (have e2 : _ = _ := h2) | skip); go_simp; rfl)) | ((first | (refine wpM_val0 Ext.refl rfl ?_) | (refine wpM_val1 Ext.refl rfl rfl ?_)); apply Exists.intro; refine ⟨?_, ?_⟩; · (intro a w' hR; intro h1; (first | (have e1 : _ = _ := h1) | skip); go_simp; rfl)) | ((first | (refine wpM_val0 Ext.refl rfl ?_) | (refine wpM_val1 Ext.refl rfl rfl ?_)); apply Exists.intro; refine ⟨?_, ?_⟩; · (intro a w' hR; go_simp; rfl)) | ((first | (refine wpM_val0 Ext.refl rfl ?_) | (refine wpM_val1 Ext.refl rfl rfl ?_)); apply Exists.intro; refine ⟨?_, ?_⟩; · (intro a w' hR; intro h1; (first | (have e1 : _ = _ := h1) | skip); intro h2; (first | (have e2 : _ = _ := h2) | skip); intro h3; (first | (have e3 : _ = _ := h3) | skip); go_simp; rfl)) | (refine wpM_skip1 rfl ?_) | (refine wpM_skipU rfl ?_))
        (first | (refine wpM_val0 Ext.refl rfl ?_) | (refine wpM_val1 Ext.refl rfl rfl ?_)); apply Exists.intro; refine ⟨?_, ?_⟩
        · intro a w' hR h1
          have e1 : _ = _ := h1
          have hl0 := hR.cell c0
          have hl1 := hR.cell c1
          go_simp
          rfl
        repeat (first | ((first | (refine wpM_move00 Ext.refl rfl rfl rfl ?_) | (refine wpM_move01 Ext.refl rfl rfl rfl rfl ?_)); apply Exists.intro; refine ⟨?_, ?_⟩; · (go_simp; rfl)) | (first | (refine wpM_movek0 Ext.refl rfl rfl rfl ?_) | (refine wpM_movek1 Ext.refl rfl rfl rfl rfl ?_)) | ((first | (refine wpM_val0 Ext.refl rfl ?_) | (refine wpM_val1 Ext.refl rfl rfl ?_)); apply Exists.intro; refine ⟨?_, ?_⟩; · (intro a w' hR; intro h1; (first | (have e1 : _ = _ := h1) | skip); intro h2; (first | (have e2 : _ = _ := h2) | skip); go_simp; rfl)) | ((first | (refine wpM_val0 Ext.refl rfl ?_) | (refine wpM_val1 Ext.refl rfl rfl ?_)); apply Exists.intro; refine ⟨?_, ?_⟩; · (intro a w' hR; intro h1; (first | (have e1 : _ = _ := h1) | skip); go_simp; rfl)) | ((first | (refine wpM_val0 Ext.refl rfl ?_) | (refine wpM_val1 Ext.refl rfl rfl ?_)); apply Exists.intro; refine ⟨?_, ?_⟩; · (intro a w' hR; go_simp; rfl)) | ((first | (refine wpM_val0 Ext.refl rfl ?_) | (refine wpM_val1 Ext.refl rfl rfl ?_)); apply Exists.intro; refine ⟨?_, ?_⟩; · (intro a w' hR; intro h1; (first | (have e1 : _ = _ := h1) | skip); intro h2; (first | (have e2 : _ = _ := h2) | skip); intro h3; (first | (have e3 : _ = _ := h3) | skip); go_simp; rfl)) | (refine wpM_skip1 rfl ?_) | (refine wpM_skipU rfl ?_))
        (first | (refine wpM_val0 Ext.refl rfl ?_) | (refine wpM_val1 Ext.refl rfl rfl ?_)); apply Exists.intro; refine ⟨?_, ?_⟩
        · intro a w' hR h1
          have e1 : _ = _ := h1
          have hl0 := hR.cell d0
          have hl1 := hR.cell d1
          go_simp
          rfl
        first | (refine wpM_call0 (fun v _ => v = .int .i64 z) rfl (by first | exact mono_eq | exact (fun _ _ _ ⟨n, h1, h2, h3⟩ k => ⟨n, h1, h2, h3.ext k⟩) | exact (fun _ _ _ h k => RB.ext h k) | exact (fun _ _ _ h k => OB.ext h k) | exact (fun _ _ _ h k => Rd.ext h k) | exact (fun _ _ _ h k => ownsRow_ext h k) | exact (fun _ _ _ h k => RB.extC h k) | exact (fun _ _ _ h k => FB.extC h k) | exact (fun _ _ _ h k => Rd.extC h k) | exact (fun _ _ _ h k => RP.ext h k) | exact (fun _ _ _ h k => RE.ext h k)) ?_ ?_) | (refine wpM_call1 (fun v _ => v = .int .i64 z) rfl rfl (by first | exact mono_eq | exact (fun _ _ _ ⟨n, h1, h2, h3⟩ k => ⟨n, h1, h2, h3.ext k⟩) | exact (fun _ _ _ h k => RB.ext h k) | exact (fun _ _ _ h k => OB.ext h k) | exact (fun _ _ _ h k => Rd.ext h k) | exact (fun _ _ _ h k => ownsRow_ext h k) | exact (fun _ _ _ h k => RB.extC h k) | exact (fun _ _ _ h k => FB.extC h k) | exact (fun _ _ _ h k => Rd.extC h k) | exact (fun _ _ _ h k => RP.ext h k) | exact (fun _ _ _ h k => RE.ext h k)) ?_ ?_)
        · intro a w' hR h1 h2 K hK
          have e1 : _ = _ := h1
          have e2 : _ = _ := h2
          go_simp
          refine (HCM.out w').mono ?_
          rintro e w2 ⟨rfl, he⟩
          exact hK _ _ he rfl
        repeat (first | ((first | (refine wpM_move00 Ext.refl rfl rfl rfl ?_) | (refine wpM_move01 Ext.refl rfl rfl rfl rfl ?_)); apply Exists.intro; refine ⟨?_, ?_⟩; · (go_simp; rfl)) | (first | (refine wpM_movek0 Ext.refl rfl rfl rfl ?_) | (refine wpM_movek1 Ext.refl rfl rfl rfl rfl ?_)) | ((first | (refine wpM_val0 Ext.refl rfl ?_) | (refine wpM_val1 Ext.refl rfl rfl ?_)); apply Exists.intro; refine ⟨?_, ?_⟩; · (intro a w' hR; intro h1; (first | (have e1 : _ = _ := h1) | skip); intro h2; (first | (have e2 : _ = _ := h2) | skip); go_simp; rfl)) | ((first | (refine wpM_val0 Ext.refl rfl ?_) | (refine wpM_val1 Ext.refl rfl rfl ?_)); apply Exists.intro; refine ⟨?_, ?_⟩; · (intro a w' hR; intro h1; (first | (have e1 : _ = _ := h1) | skip); go_simp; rfl)) | ((first | (refine wpM_val0 Ext.refl rfl ?_) | (refine wpM_val1 Ext.refl rfl rfl ?_)); apply Exists.intro; refine ⟨?_, ?_⟩; · (intro a w' hR; go_simp; rfl)) | ((first | (refine wpM_val0 Ext.refl rfl ?_) | (refine wpM_val1 Ext.refl rfl rfl ?_)); apply Exists.intro; refine ⟨?_, ?_⟩; · (intro a w' hR; intro h1; (first | (have e1 : _ = _ := h1) | skip); intro h2; (first | (have e2 : _ = _ := h2) | skip); intro h3; (first | (have e3 : _ = _ := h3) | skip); go_simp; rfl)) | (refine wpM_skip1 rfl ?_) | (refine wpM_skipU rfl ?_))
        refine wpM_done ?_
        intro w5 hx5
        iterate 6 (rintro _ rfl)
        dsimp only [FinV]
        go_simp
        have HX5 := Lib.hid (HE.out.trans hx5)
        clear hx5
        go_wp2
        have hn := HNJ.out
        exact ⟨⟨j + 1, n + 1, by omega, .inr (by omega), by go_num, HYS.out, HX5.out⟩, by simp [intOf]; omega⟩
    · have g1 : ¬ (n : Int) < (l.length : Int) := by omega
      have HY := Lib.hid (show Rec.Asc l by
        by_cases h1 : l.length ≤ 1
        · exact rasc_short h1
        · have := HA.out
          rwa [List.take_of_length_le (by omega)] at this)
      clear hext hn
      go_wp2
      go_ret
      exact .inr ⟨rfl, HY.out, HE.out⟩

set_option maxRecDepth 100000 in
set_option maxHeartbeats 2000000 in
theorem rsame_any (v u : Value) (l r : List Rec.R) (w : World) (hv : RP w v l) (hu : RP w u r) (hl : l.length ≤ 1000000) (hr : r.length ≤ 1000000) :
    Calls Try.prog 30 #[v, u] w fun e w' => e = .returned (.bool (decide (Rec.srt l = Rec.srt r))) ∧ Ext w w' := by
  obtain ⟨A, c, rfl⟩ := hv.form
  obtain ⟨B, d, rfl⟩ := hu.form
  by_cases hlen : l.length = r.length
  · have HV := Lib.hid hv
    have HU := Lib.hid hu
    have g1 : ((l.length : Int) == (r.length : Int)) = true := by rw [hlen]; exact beq_self_eq_true _
    have HSL := Lib.hid (fun w hv => rsort_any l (.slice A l.length c) w hv hl)
    have HSR := Lib.hid (fun w hu => rsort_any r (.slice B r.length d) w hu hr)
    clear hv hu hlen hl hr
    go_enter Try.func30, Try.ntmps30
    go_wp2_with fail
    refine (HSL.out _ HV.out).mono ?_
    rintro e1 w1 ⟨v1, rfl, ho1, he1⟩
    go_wp2_with fail
    refine (HSR.out _ (HU.out.ext he1)).mono ?_
    rintro e2 w2 ⟨v2, rfl, ho2, he2⟩
    go_wp2_with fail
    refine (exact_any _ _ _ _ _ (ho1.ext he2).rp ho2.rp).mono ?_
    rintro e3 w3 ⟨rfl, he3⟩
    go_wp2
    go_ret
    exact ⟨rfl, (he1.trans he2).trans he3⟩
  · have g1 : ((l.length : Int) == (r.length : Int)) = false := by rw [beq_eq_false_iff_ne]; omega
    have HN := Lib.hid (show ¬ Rec.srt l = Rec.srt r from fun h => hlen (by rw [← Rec.srt_len l, ← Rec.srt_len r, h]))
    clear hv hu hlen
    go_enter Try.func30, Try.ntmps30
    go_wp2
    go_ret
    exact ⟨by rw [decide_eq_false HN.out]; rfl, Ext.refl _⟩
end Go.Proofs.Ytgmaeeihfoicmaa
namespace Go.Proofs.Ytgmaeeihfoicmaa
open Go.RowKit Go.Ox Go.Shelf
attribute [local irreducible] OP RP
set_option linter.unusedVariables false
set_option linter.unusedSimpArgs false
set_option maxRecDepth 100000 in
set_option maxHeartbeats 400000 in
theorem equalM_len (A B : Option Addr) (n m c d : Nat) (w : World) (hne : n ≠ m) : Calls Try.prog 58 #[.slice A n c, .slice B m d] w fun e w' => e = .returned (.bool false) ∧ w = w' := by
  have h1 : ((n : Int) != (m : Int)) = true := by rw [bne_iff_ne]; omega
  go_enter Try.func58, Try.ntmps58
  go_wp2
  go_ret
  exact ⟨rfl, rfl⟩
set_option maxRecDepth 100000 in
set_option maxHeartbeats 400000 in
theorem equalM_any (v u : Value) (l r : List Rec.R) (w : World) (hv : RP w v l) (hu : RP w u r) : Calls Try.prog 58 #[v, u] w fun e w' => e = .returned (.bool (decide (l = r))) ∧ Ext w w' := by
  obtain ⟨A, c, rfl⟩ := hv.form
  obtain ⟨B, d, rfl⟩ := hu.form
  by_cases hl : l.length = r.length
  · have HV := Lib.hid hv
    have HU := Lib.hid hu
    have HL := Lib.hid hl
    have hlb : l.length ≤ 9223372036854775807 := by have := hv.nc; unfold maxLen at this; omega
    rw [← hl] at HU ⊢
    clear hv hu hl
    have hE := neM
    have HE := Lib.hid (eqInM)
    have hG := guardM
    go_enter Try.func58, Try.ntmps58
    go_wp2
    go_loopw [13] (fun i wr => ∃ k : Nat, k ≤ l.length ∧ i = .int .i64 k ∧ l.take k = r.take k ∧ Ext w wr) (fun i _ => l.length - (intOf i).toNat)
    case atStart => exact ⟨0, Nat.zero_le _, rfl, by simp, Ext.refl _⟩
    case round =>
      obtain ⟨k, hk, rfl, ht, hext⟩ := hrel
      have HT := Lib.hid ht
      have HX := Lib.hid hext
      clear ht hext
      by_cases hlt : k < l.length
      · have g1 : (k : Int) < (l.length : Int) := by omega
        have g0 : 0 ≤ (k : Int) := by omega
        have hlr : k < r.length := by have := HL.out; omega
        obtain ⟨b1, o1, rfl, c1, c2⟩ := HV.out.at_ hlt
        obtain ⟨b2, o2, rfl, c3, c4⟩ := HU.out.at_ hlr
        have c1 := HX.out.cell c1
        have c2 := HX.out.cell c2
        have c3 := HX.out.cell c3
        have c4 := HX.out.cell c4
        obtain ⟨hst, hsn⟩ := list_eq_at l r k hlt hlr HT.out
        have HST := Lib.hid hst
        have HSN := Lib.hid hsn
        clear hst hsn
        generalize l[k] = x at *
        generalize r[k] = y at *
        obtain ⟨x1, x2⟩ := x
        obtain ⟨y1, y2⟩ := y
        dsimp only at *
        by_cases hxy : (x1, x2) = (y1, y2)
        · have HN := Lib.hid (HST.out hxy)
          have hd := pairB_t hxy
          clear hxy HST HSN
          go_wp2
          refine wp_regionY [] [] Ext Ext (fun _ => True) (by kernel_rfl) (by rfl) (by rfl) (by kernel_rfl) (by kernel_rfl) (by kernel_rfl) (fun _ _ _ x y => x.trans y) Ext.refl (fun _ _ x => x) (Ext.refl _).drew (fun _ _ x _ => x) trivial ?_
          repeat (first | (refine wpY_move0 rfl rfl (by first | exact runs0 | exact runs1 rfl) Ext.refl rfl rfl rfl ?_; apply Exists.intro; refine ⟨?_, ?_⟩; · (go_simp; rfl)) | (refine wpY_move rfl rfl (by first | exact runs0 | exact runs1 rfl) Ext.refl rfl rfl rfl (fun _ _ _ h _ => h) ?_) | (refine wpY_val rfl rfl (by first | exact runs0 | exact runs1 rfl) Ext.refl rfl ?_; apply Exists.intro; refine ⟨?_, ?_⟩; · (intro a w' hR; intro h1; (first | (have e1 : _ = _ := h1) | skip); intro h2; (first | (have e2 : _ = _ := h2) | skip); go_simp; rfl)) | (refine wpY_val rfl rfl (by first | exact runs0 | exact runs1 rfl) Ext.refl rfl ?_; apply Exists.intro; refine ⟨?_, ?_⟩; · (intro a w' hR; intro h1; (first | (have e1 : _ = _ := h1) | skip); go_simp; rfl)) | (refine wpY_val rfl rfl (by first | exact runs0 | exact runs1 rfl) Ext.refl rfl ?_; apply Exists.intro; refine ⟨?_, ?_⟩; · (intro a w' hR; go_simp; rfl)) | (refine wpY_val rfl rfl (by first | exact runs0 | exact runs1 rfl) Ext.refl rfl ?_; apply Exists.intro; refine ⟨?_, ?_⟩; · (intro a w' hR; intro h1; (first | (have e1 : _ = _ := h1) | skip); intro h2; (first | (have e2 : _ = _ := h2) | skip); intro h3; (first | (have e3 : _ = _ := h3) | skip); go_simp; rfl)) | (refine wpY_skip rfl rfl (by first | exact .inl rfl | exact .inr rfl) ?_))
          refine wpY_val rfl rfl (by first | exact runs0 | exact runs1 rfl) Ext.refl rfl ?_; apply Exists.intro; refine ⟨?_, ?_⟩
          · intro a w' hR h1
            have e1 : _ = _ := h1
            have hl1 := hR.cell c1
            have hl2 := hR.cell c2
            go_simp
            rfl
          repeat (first | (refine wpY_move0 rfl rfl (by first | exact runs0 | exact runs1 rfl) Ext.refl rfl rfl rfl ?_; apply Exists.intro; refine ⟨?_, ?_⟩; · (go_simp; rfl)) | (refine wpY_move rfl rfl (by first | exact runs0 | exact runs1 rfl) Ext.refl rfl rfl rfl (fun _ _ _ h _ => h) ?_) | (refine wpY_val rfl rfl (by first | exact runs0 | exact runs1 rfl) Ext.refl rfl ?_; apply Exists.intro; refine ⟨?_, ?_⟩; · (intro a w' hR; intro h1; (first | (have e1 : _ = _ := h1) | skip); intro h2; (first | (have e2 : _ = _ := h2) | skip); go_simp; rfl)) | (refine wpY_val rfl rfl (by first | exact runs0 | exact runs1 rfl) Ext.refl rfl ?_; apply Exists.intro; refine ⟨?_, ?_⟩; · (intro a w' hR; intro h1; (first | (have e1 : _ = _ := h1) | skip); go_simp; rfl)) | (refine wpY_val rfl rfl (by first | exact runs0 | exact runs1 rfl) Ext.refl rfl ?_; apply Exists.intro; refine ⟨?_, ?_⟩; · (intro a w' hR; go_simp; rfl)) | (refine wpY_val rfl rfl (by first | exact runs0 | exact runs1 rfl) Ext.refl rfl ?_; apply Exists.intro; refine ⟨?_, ?_⟩; · (intro a w' hR; intro h1; (first | (have e1 : _ = _ := h1) | skip); intro h2; (first | (have e2 : _ = _ := h2) | skip); intro h3; (first | (have e3 : _ = _ := h3) | skip); go_simp; rfl)) | (refine wpY_skip rfl rfl (by first | exact .inl rfl | exact .inr rfl) ?_))
          refine wpY_val rfl rfl (by first | exact runs0 | exact runs1 rfl) Ext.refl rfl ?_; apply Exists.intro; refine ⟨?_, ?_⟩
          · intro a w' hR h1
            have e1 : _ = _ := h1
            have hl1 := hR.cell c3
            have hl2 := hR.cell c4
            go_simp
            rfl
          refine wpY_val rfl rfl (by first | exact runs0 | exact runs1 rfl) Ext.refl rfl ?_; apply Exists.intro; refine ⟨?_, ?_⟩
          · intro a w' hR h1 h2
            have e1 : _ = _ := h1
            have e2 : _ = _ := h2
            go_simp
            rfl
          refine wpY_done ?_
          intro w5 hx5 hS5
          iterate 9 (rintro _ rfl)
          dsimp only [FinV]
          go_simp
          have HX5 := Lib.hid hx5
          clear hx5
          go_wp2
          exact ⟨⟨k + 1, by omega, by go_num, HN.out, HX.out.trans HX5.out⟩, by simp [intOf]; omega⟩
        · have HN := Lib.hid (HSN.out hxy)
          have hd := pairB_f hxy
          clear hxy HST HSN
          go_wp2
          refine wp_regionY [] [] Ext Ext (fun _ => True) (by kernel_rfl) (by rfl) (by rfl) (by kernel_rfl) (by kernel_rfl) (by kernel_rfl) (fun _ _ _ x y => x.trans y) Ext.refl (fun _ _ x => x) (Ext.refl _).drew (fun _ _ x _ => x) trivial ?_
          repeat (first | (refine wpY_move0 rfl rfl (by first | exact runs0 | exact runs1 rfl) Ext.refl rfl rfl rfl ?_; apply Exists.intro; refine ⟨?_, ?_⟩; · (go_simp; rfl)) | (refine wpY_move rfl rfl (by first | exact runs0 | exact runs1 rfl) Ext.refl rfl rfl rfl (fun _ _ _ h _ => h) ?_) | (refine wpY_val rfl rfl (by first | exact runs0 | exact runs1 rfl) Ext.refl rfl ?_; apply Exists.intro; refine ⟨?_, ?_⟩; · (intro a w' hR; intro h1; (first | (have e1 : _ = _ := h1) | skip); intro h2; (first | (have e2 : _ = _ := h2) | skip); go_simp; rfl)) | (refine wpY_val rfl rfl (by first | exact runs0 | exact runs1 rfl) Ext.refl rfl ?_; apply Exists.intro; refine ⟨?_, ?_⟩; · (intro a w' hR; intro h1; (first | (have e1 : _ = _ := h1) | skip); go_simp; rfl)) | (refine wpY_val rfl rfl (by first | exact runs0 | exact runs1 rfl) Ext.refl rfl ?_; apply Exists.intro; refine ⟨?_, ?_⟩; · (intro a w' hR; go_simp; rfl)) | (refine wpY_val rfl rfl (by first | exact runs0 | exact runs1 rfl) Ext.refl rfl ?_; apply Exists.intro; refine ⟨?_, ?_⟩; · (intro a w' hR; intro h1; (first | (have e1 : _ = _ := h1) | skip); intro h2; (first | (have e2 : _ = _ := h2) | skip); intro h3; (first | (have e3 : _ = _ := h3) | skip); go_simp; rfl)) | (refine wpY_skip rfl rfl (by first | exact .inl rfl | exact .inr rfl) ?_))
          refine wpY_val rfl rfl (by first | exact runs0 | exact runs1 rfl) Ext.refl rfl ?_; apply Exists.intro; refine ⟨?_, ?_⟩
          · intro a w' hR h1
            have e1 : _ = _ := h1
            have hl1 := hR.cell c1
            have hl2 := hR.cell c2
            go_simp
            rfl
          repeat (first | (refine wpY_move0 rfl rfl (by first | exact runs0 | exact runs1 rfl) Ext.refl rfl rfl rfl ?_; apply Exists.intro; refine ⟨?_, ?_⟩; · (go_simp; rfl)) | (refine wpY_move rfl rfl (by first | exact runs0 | exact runs1 rfl) Ext.refl rfl rfl rfl (fun _ _ _ h _ => h) ?_) | (refine wpY_val rfl rfl (by first | exact runs0 | exact runs1 rfl) Ext.refl rfl ?_; apply Exists.intro; refine ⟨?_, ?_⟩; · (intro a w' hR; intro h1; (first | (have e1 : _ = _ := h1) | skip); intro h2; (first | (have e2 : _ = _ := h2) | skip); go_simp; rfl)) | (refine wpY_val rfl rfl (by first | exact runs0 | exact runs1 rfl) Ext.refl rfl ?_; apply Exists.intro; refine ⟨?_, ?_⟩; · (intro a w' hR; intro h1; (first | (have e1 : _ = _ := h1) | skip); go_simp; rfl)) | (refine wpY_val rfl rfl (by first | exact runs0 | exact runs1 rfl) Ext.refl rfl ?_; apply Exists.intro; refine ⟨?_, ?_⟩; · (intro a w' hR; go_simp; rfl)) | (refine wpY_val rfl rfl (by first | exact runs0 | exact runs1 rfl) Ext.refl rfl ?_; apply Exists.intro; refine ⟨?_, ?_⟩; · (intro a w' hR; intro h1; (first | (have e1 : _ = _ := h1) | skip); intro h2; (first | (have e2 : _ = _ := h2) | skip); intro h3; (first | (have e3 : _ = _ := h3) | skip); go_simp; rfl)) | (refine wpY_skip rfl rfl (by first | exact .inl rfl | exact .inr rfl) ?_))
          refine wpY_val rfl rfl (by first | exact runs0 | exact runs1 rfl) Ext.refl rfl ?_; apply Exists.intro; refine ⟨?_, ?_⟩
          · intro a w' hR h1
            have e1 : _ = _ := h1
            have hl1 := hR.cell c3
            have hl2 := hR.cell c4
            go_simp
            rfl
          refine wpY_val rfl rfl (by first | exact runs0 | exact runs1 rfl) Ext.refl rfl ?_; apply Exists.intro; refine ⟨?_, ?_⟩
          · intro a w' hR h1 h2
            have e1 : _ = _ := h1
            have e2 : _ = _ := h2
            go_simp
            rfl
          refine wpY_done ?_
          intro w5 hx5 hS5
          iterate 9 (rintro _ rfl)
          dsimp only [FinV]
          go_simp
          have HX5 := Lib.hid hx5
          clear hx5
          go_wp2
          go_ret
          rw [HN.out]
          exact ⟨rfl, HX.out.trans HX5.out⟩
      · obtain rfl : k = l.length := by omega
        have hq : decide (l = r) = true := by
          have h1 := HT.out
          have h2 := HL.out
          rw [List.take_length, h2, List.take_length] at h1
          simpa using h1
        have HQ := Lib.hid hq
        clear hq
        go_wp2
        go_ret
        rw [HQ.out]
        exact ⟨rfl, HX.out⟩
  · refine (equalM_len A B _ _ c d w hl).mono ?_
    rintro e w' ⟨rfl, rfl⟩
    have : decide (l = r) = false := by simp; intro h; exact hl (by rw [h])
    rw [this]
    exact ⟨rfl, Ext.refl _⟩

set_option maxRecDepth 100000 in
set_option maxHeartbeats 2000000 in
theorem same_any (v u : Value) (l r : List Rec.R) (w : World) (hv : RP w v l) (hu : RP w u r) (hl : l.length ≤ 1000000) (hr : r.length ≤ 1000000) :
    Calls Try.prog 29 #[v, u] w fun e w' => e = .returned (.bool (decide (Rec.srt l = Rec.srt r))) ∧ Ext w w' := by
  have HV := Lib.hid hv
  have HU := Lib.hid hu
  have HSL := Lib.hid (fun w hv => sorted_any v l w hv hl)
  have HSR := Lib.hid (fun w hu => sorted_any u r w hu hr)
  clear hv hu hl hr
  go_enter Try.func29, Try.ntmps29
  go_wp2_with fail
  refine (HSL.out _ HV.out).mono ?_
  rintro e1 w1 ⟨v1, rfl, ho1, he1⟩
  go_wp2_with fail
  refine (HSR.out _ (HU.out.ext he1)).mono ?_
  rintro e2 w2 ⟨v2, rfl, ho2, he2⟩
  go_wp2_with fail
  refine (equalM_any _ _ _ _ _ (ho1.ext he2).rp ho2.rp).mono ?_
  rintro e3 w3 ⟨rfl, he3⟩
  go_wp2
  go_ret
  exact ⟨rfl, (he1.trans he2).trans he3⟩
end Go.Proofs.Ytgmaeeihfoicmaa
namespace Go.Proofs.Ytgmaeeihfoicmaa
open Go.RowKit Go.Ox Go.Shelf
attribute [local irreducible] OP RP
set_option linter.unusedVariables false
set_option linter.unusedSimpArgs false

theorem rasc_down {l : List Rec.R} {j : Nat} (h : j + 1 < l.length) (ha : Rec.Asc (l.drop (j + 1))) (hc : ¬ Mom.lt l[j + 1] l[j]) : Rec.Asc (l.drop j) := by
  rw [List.drop_eq_getElem_cons (by omega)]
  refine List.pairwise_cons.2 ⟨?_, ha⟩
  intro y hy
  rw [List.drop_eq_getElem_cons h] at ha hy
  rcases List.mem_cons.1 hy with q | q
  · rw [q]; exact hc
  · exact Rec.not_lt_trans hc ((List.pairwise_cons.1 ha).1 y q)
theorem rasc_last (l : List Rec.R) : Rec.Asc (l.drop (l.length - 1)) := rasc_short (by rw [List.length_drop]; omega)

set_option maxRecDepth 100000 in
set_option maxHeartbeats 4000000 in
theorem isSorted_any (v : Value) (l : List Rec.R) (w : World) (hv : RP w v l) (hl : l.length ≤ 1000000) :
    Calls Try.prog 65 #[v, .func (.func 25) #[] #[]] w fun e w' => ∃ b, e = .returned (.bool b) ∧ (b = true ↔ Rec.Asc l) ∧ Ext w w' := by
  obtain ⟨A, c, rfl⟩ := hv.form
  have HV := Lib.hid hv
  have HL := Lib.hid hl
  have hw0 : IntKind.i64.wrap ((l.length : Int) - 1) = (l.length : Int) - 1 := IntWalk.i64_in _ (by omega)
  clear hv
  go_enter Try.func65, Try.ntmps65
  go_wp2
  clear hw0
  go_loopw [5] (fun iv wr => ∃ z : Int, iv = .int .i64 z ∧ ((∃ n : Nat, z = n ∧ n < l.length ∧ Rec.Asc (l.drop n)) ∨ (z ≤ 0 ∧ Rec.Asc l)) ∧ Ext w wr) (fun iv _ => (intOf iv).toNat)
  case atStart =>
    refine ⟨_, rfl, ?_, Ext.refl _⟩
    by_cases h0 : l.length = 0
    · exact .inr ⟨by omega, rasc_short (by omega)⟩
    · exact .inl ⟨l.length - 1, by omega, by omega, rasc_last l⟩
  case round =>
    obtain ⟨z, rfl, hz, hext⟩ := hrel
    have HE := Lib.hid hext
    by_cases hp : 0 < z
    · obtain ⟨n, hn, hlt, hasc⟩ : ∃ n : Nat, z = n ∧ n < l.length ∧ Rec.Asc (l.drop n) := by
        rcases hz with q | q
        · exact q
        · omega
      clear hz
      obtain ⟨j, hj⟩ : ∃ j, n = j + 1 := ⟨n - 1, by omega⟩
      subst hn
      have HNJ := Lib.hid hj
      have HA := Lib.hid hasc
      clear hasc
      have g0 : 0 ≤ (j : Int) := by omega
      have g1 : (j : Int) < (l.length : Int) := by omega
      have g2 : (n : Int) < (l.length : Int) := by omega
      have g3 : 0 ≤ (n : Int) := by omega
      obtain ⟨bA, oA, rfl, c0, c1⟩ := (HV.out.ext hext).at_ (k := j) (by omega)
      obtain ⟨bB, oB, hq2, d0, d1⟩ := (HV.out.ext hext).at_ (k := j + 1) (by omega)
      cases hq2
      have hj1 : j + 1 < l.length := by omega
      have HS := Lib.hid (fun hc => rasc_down (j := j) hj1 (by rw [← hj]; exact HA.out) hc)
      have HN := Lib.hid (fun hc => rasc_not (l := l) (j := j) hj1 hc)
      have HCM := Lib.hid (fun w => compare_any l[j + 1] l[j] w)
      have HQ := Lib.hid (show Mom.cmp l[j + 1] l[j] < 0 ↔ Mom.lt l[j + 1] l[j] from Mom.cmp_lt)
      have hwr : IntKind.i64.wrap ((n : Int) - 1) = (j : Int) := by rw [IntWalk.i64_in _ (by omega)]; omega
      generalize l[j] = x at *
      generalize l[j + 1] = y at *
      obtain ⟨x1, x2⟩ := x
      obtain ⟨y1, y2⟩ := y
      dsimp only at *
      rw [← hj] at d0 d1
      generalize Mom.cmp (y1, y2) (x1, x2) = z at *
      have HJ1 := Lib.hid hj1
      clear hext hj hj1
      by_cases hz : z < 0
      · have HNO := Lib.hid (HN.out (HQ.out.1 hz))
        clear HS HN HQ
        go_wp2
        refine wp_region_ext (by kernel_rfl) (by rfl) (by rfl) (by kernel_rfl) ?_
        repeat (first | ((first | (refine wpM_move00 Ext.refl rfl rfl rfl ?_) | (refine wpM_move01 Ext.refl rfl rfl rfl rfl ?_)); apply Exists.intro; refine ⟨?_, ?_⟩; · (go_simp; rfl)) | (first | (refine wpM_movek0 Ext.refl rfl rfl rfl ?_) | (refine wpM_movek1 Ext.refl rfl rfl rfl rfl ?_)) | ((first | (refine wpM_val0 Ext.refl rfl ?_) | (refine wpM_val1 Ext.refl rfl rfl ?_)); apply Exists.intro; refine ⟨?_, ?_⟩; · (intro a w' hR; intro h1; (first | (have e1 : _ = _ := h1) | skip); intro h2; (first | (have e2 : _ = _ := h2) | skip); go_simp; rfl)) | ((first | (refine wpM_val0 Ext.refl rfl ?_) | (refine wpM_val1 Ext.refl rfl rfl ?_)); apply Exists.intro; refine ⟨?_, ?_⟩; · (intro a w' hR; intro h1; (first | (have e1 : _ = _ := h1) | skip); go_simp; rfl)) | ((first | (refine wpM_val0 Ext.refl rfl ?_) | (refine wpM_val1 Ext.refl rfl rfl ?_)); apply Exists.intro; refine ⟨?_, ?_⟩; · (intro a w' hR; go_simp; rfl)) | ((first | (refine wpM_val0 Ext.refl rfl ?_) | (refine wpM_val1 Ext.refl rfl rfl ?_)); apply Exists.intro; refine ⟨?_, ?_⟩; · (intro a w' hR; intro h1; (first | (have e1 : _ = _ := h1) | skip); intro h2; (first | (have e2 : _ = _ := h2) | skip); intro h3; (first | (have e3 : _ = _ := h3) | skip); go_simp; rfl)) | (refine wpM_skip1 rfl ?_) | (refine wpM_skipU rfl ?_))
        (first | (refine wpM_val0 Ext.refl rfl ?_) | (refine wpM_val1 Ext.refl rfl rfl ?_)); apply Exists.intro; refine ⟨?_, ?_⟩
        · intro a w' hR h1
          have e1 : _ = _ := h1
          have hl0 := hR.cell d0
          have hl1 := hR.cell d1
          go_simp
          rfl
        repeat (first | ((first | (refine wpM_move00 Ext.refl rfl rfl rfl ?_) | (refine wpM_move01 Ext.refl rfl rfl rfl rfl ?_)); apply Exists.intro; refine ⟨?_, ?_⟩; · (go_simp; rfl)) | (first | (refine wpM_movek0 Ext.refl rfl rfl rfl ?_) | (refine wpM_movek1 Ext.refl rfl rfl rfl rfl ?_)) | ((first | (refine wpM_val0 Ext.refl rfl ?_) | (refine wpM_val1 Ext.refl rfl rfl ?_)); apply Exists.intro; refine ⟨?_, ?_⟩; · (intro a w' hR; intro h1; (first | (have e1 : _ = _ := h1) | skip); intro h2; (first | (have e2 : _ = _ := h2) | skip); go_simp; rfl)) | ((first | (refine wpM_val0 Ext.refl rfl ?_) | (refine wpM_val1 Ext.refl rfl rfl ?_)); apply Exists.intro; refine ⟨?_, ?_⟩; · (intro a w' hR; intro h1; (first | (have e1 : _ = _ := h1) | skip); go_simp; rfl)) | ((first | (refine wpM_val0 Ext.refl rfl ?_) | (refine wpM_val1 Ext.refl rfl rfl ?_)); apply Exists.intro; refine ⟨?_, ?_⟩; · (intro a w' hR; go_simp; rfl)) | ((first | (refine wpM_val0 Ext.refl rfl ?_) | (refine wpM_val1 Ext.refl rfl rfl ?_)); apply Exists.intro; refine ⟨?_, ?_⟩; · (intro a w' hR; intro h1; (first | (have e1 : _ = _ := h1) | skip); intro h2; (first | (have e2 : _ = _ := h2) | skip); intro h3; (first | (have e3 : _ = _ := h3) | skip); go_simp; rfl)) | (refine wpM_skip1 rfl ?_) | (refine wpM_skipU rfl ?_))
        (first | (refine wpM_val0 Ext.refl rfl ?_) | (refine wpM_val1 Ext.refl rfl rfl ?_)); apply Exists.intro; refine ⟨?_, ?_⟩
        · intro a w' hR h1
          have e1 : _ = _ := h1
          have hl0 := hR.cell c0
          have hl1 := hR.cell c1
          go_simp
          rfl
        first | (refine wpM_call0 (fun v _ => v = .int .i64 z) rfl (by first | exact mono_eq | exact (fun _ _ _ ⟨n, h1, h2, h3⟩ k => ⟨n, h1, h2, h3.ext k⟩) | exact (fun _ _ _ h k => RB.ext h k) | exact (fun _ _ _ h k => OB.ext h k) | exact (fun _ _ _ h k => Rd.ext h k) | exact (fun _ _ _ h k => ownsRow_ext h k) | exact (fun _ _ _ h k => RB.extC h k) | exact (fun _ _ _ h k => FB.extC h k) | exact (fun _ _ _ h k => Rd.extC h k) | exact (fun _ _ _ h k => RP.ext h k) | exact (fun _ _ _ h k => RE.ext h k)) ?_ ?_) | (refine wpM_call1 (fun v _ => v = .int .i64 z) rfl rfl (by first | exact mono_eq | exact (fun _ _ _ ⟨n, h1, h2, h3⟩ k => ⟨n, h1, h2, h3.ext k⟩) | exact (fun _ _ _ h k => RB.ext h k) | exact (fun _ _ _ h k => OB.ext h k) | exact (fun _ _ _ h k => Rd.ext h k) | exact (fun _ _ _ h k => ownsRow_ext h k) | exact (fun _ _ _ h k => RB.extC h k) | exact (fun _ _ _ h k => FB.extC h k) | exact (fun _ _ _ h k => Rd.extC h k) | exact (fun _ _ _ h k => RP.ext h k) | exact (fun _ _ _ h k => RE.ext h k)) ?_ ?_)
        · intro a w' hR h1 h2 h3 K hK
          have e1 : _ = _ := h1
          have e2 : _ = _ := h2
          have e3 : _ = _ := h3
          go_simp
          refine (HCM.out w').mono ?_
          rintro e w2 ⟨rfl, he⟩
          exact hK _ _ he rfl
        repeat (first | ((first | (refine wpM_move00 Ext.refl rfl rfl rfl ?_) | (refine wpM_move01 Ext.refl rfl rfl rfl rfl ?_)); apply Exists.intro; refine ⟨?_, ?_⟩; · (go_simp; rfl)) | (first | (refine wpM_movek0 Ext.refl rfl rfl rfl ?_) | (refine wpM_movek1 Ext.refl rfl rfl rfl rfl ?_)) | ((first | (refine wpM_val0 Ext.refl rfl ?_) | (refine wpM_val1 Ext.refl rfl rfl ?_)); apply Exists.intro; refine ⟨?_, ?_⟩; · (intro a w' hR; intro h1; (first | (have e1 : _ = _ := h1) | skip); intro h2; (first | (have e2 : _ = _ := h2) | skip); go_simp; rfl)) | ((first | (refine wpM_val0 Ext.refl rfl ?_) | (refine wpM_val1 Ext.refl rfl rfl ?_)); apply Exists.intro; refine ⟨?_, ?_⟩; · (intro a w' hR; intro h1; (first | (have e1 : _ = _ := h1) | skip); go_simp; rfl)) | ((first | (refine wpM_val0 Ext.refl rfl ?_) | (refine wpM_val1 Ext.refl rfl rfl ?_)); apply Exists.intro; refine ⟨?_, ?_⟩; · (intro a w' hR; go_simp; rfl)) | ((first | (refine wpM_val0 Ext.refl rfl ?_) | (refine wpM_val1 Ext.refl rfl rfl ?_)); apply Exists.intro; refine ⟨?_, ?_⟩; · (intro a w' hR; intro h1; (first | (have e1 : _ = _ := h1) | skip); intro h2; (first | (have e2 : _ = _ := h2) | skip); intro h3; (first | (have e3 : _ = _ := h3) | skip); go_simp; rfl)) | (refine wpM_skip1 rfl ?_) | (refine wpM_skipU rfl ?_))
        refine wpM_done ?_
        intro w5 hx5
        iterate 6 (rintro _ rfl)
        dsimp only [FinV]
        go_simp
        have HX5 := Lib.hid (HE.out.trans hx5)
        clear hx5
        go_wp2
        go_ret
        exact ⟨_, rfl, ⟨fun h => by simp at h, fun h => absurd h HNO.out⟩, HX5.out⟩
      · have HYS := Lib.hid (HS.out fun h => hz (HQ.out.2 h))
        clear HS HN HQ
        go_wp2
        refine wp_region_ext (by kernel_rfl) (by rfl) (by rfl) (by kernel_rfl) ?_
        repeat (first | ((first | (refine wpM_move00 Ext.refl rfl rfl rfl ?_) | (refine wpM_move01 Ext.refl rfl rfl rfl rfl ?_)); apply Exists.intro; refine ⟨?_, ?_⟩; · (go_simp; rfl)) | (first | (refine wpM_movek0 Ext.refl rfl rfl rfl ?_) | (refine wpM_movek1 Ext.refl rfl rfl rfl rfl ?_)) | ((first | (refine wpM_val0 Ext.refl rfl ?_) | (refine wpM_val1 Ext.refl rfl rfl ?_)); apply Exists.intro; refine ⟨?_, ?_⟩; · (intro a w' hR; intro h1; (first | (have e1 : _ = _ := h1) | skip); intro h2; (first | (have e2 : _ = _ := h2) | skip); go_simp; rfl)) | ((first | (refine wpM_val0 Ext.refl rfl ?_) | (refine wpM_val1 Ext.refl rfl rfl ?_)); apply Exists.intro; refine ⟨?_, ?_⟩; · (intro a w' hR; intro h1; (first | (have e1 : _ = _ := h1) | skip); go_simp; rfl)) | ((first | (refine wpM_val0 Ext.refl rfl ?_) | (refine wpM_val1 Ext.refl rfl rfl ?_)); apply Exists.intro; refine ⟨?_, ?_⟩; · (intro a w' hR; go_simp; rfl)) | ((first | (refine wpM_val0 Ext.refl rfl ?_) | (refine wpM_val1 Ext.refl rfl rfl ?_)); apply Exists.intro; refine ⟨?_, ?_⟩; · (intro a w' hR; intro h1; (first | (have e1 : _ = _ := h1) | skip); intro h2; (first | (have e2 : _ = _ := h2) | skip); intro h3; (first | (have e3 : _ = _ := h3) | skip); go_simp; rfl)) | (refine wpM_skip1 rfl ?_) | (refine wpM_skipU rfl ?_))
        (first | (refine wpM_val0 Ext.refl rfl ?_) | (refine wpM_val1 Ext.refl rfl rfl ?_)); apply Exists.intro; refine ⟨?_, ?_⟩
        · intro a w' hR h1
          have e1 : _ = _ := h1
          have hl0 := hR.cell d0
          have hl1 := hR.cell d1
          go_simp
          rfl
        repeat (first | ((first | (refine wpM_move00 Ext.refl rfl rfl rfl ?_) | (refine wpM_move01 Ext.refl rfl rfl rfl rfl ?_)); apply Exists.intro; refine ⟨?_, ?_⟩; · (go_simp; rfl)) | (first | (refine wpM_movek0 Ext.refl rfl rfl rfl ?_) | (refine wpM_movek1 Ext.refl rfl rfl rfl rfl ?_)) | ((first | (refine wpM_val0 Ext.refl rfl ?_) | (refine wpM_val1 Ext.refl rfl rfl ?_)); apply Exists.intro; refine ⟨?_, ?_⟩; · (intro a w' hR; intro h1; (first | (have e1 : _ = _ := h1) | skip); intro h2; (first | (have e2 : _ = _ := h2) | skip); go_simp; rfl)) | ((first | (refine wpM_val0 Ext.refl rfl ?_) | (refine wpM_val1 Ext.refl rfl rfl ?_)); apply Exists.intro; refine ⟨?_, ?_⟩; · (intro a w' hR; intro h1; (first | (have e1 : _ = _ := h1) | skip); go_simp; rfl)) | ((first | (refine wpM_val0 Ext.refl rfl ?_) | (refine wpM_val1 Ext.refl rfl rfl ?_)); apply Exists.intro; refine ⟨?_, ?_⟩; · (intro a w' hR; go_simp; rfl)) | ((first | (refine wpM_val0 Ext.refl rfl ?_) | (refine wpM_val1 Ext.refl rfl rfl ?_)); apply Exists.intro; refine ⟨?_, ?_⟩; · (intro a w' hR; intro h1; (first | (have e1 : _ = _ := h1) | skip); intro h2; (first | (have e2 : _ = _ := h2) | skip); intro h3; (first | (have e3 : _ = _ := h3) | skip); go_simp; rfl)) | (refine wpM_skip1 rfl ?_) | (refine wpM_skipU rfl ?_))
        (first | (refine wpM_val0 Ext.refl rfl ?_) | (refine wpM_val1 Ext.refl rfl rfl ?_)); apply Exists.intro; refine ⟨?_, ?_⟩
        · intro a w' hR h1
          have e1 : _ = _ := h1
          have hl0 := hR.cell c0
          have hl1 := hR.cell c1
          go_simp
          rfl
        first | (refine wpM_call0 (fun v _ => v = .int .i64 z) rfl (by first | exact mono_eq | exact (fun _ _ _ ⟨n, h1, h2, h3⟩ k => ⟨n, h1, h2, h3.ext k⟩) | exact (fun _ _ _ h k => RB.ext h k) | exact (fun _ _ _ h k => OB.ext h k) | exact (fun _ _ _ h k => Rd.ext h k) | exact (fun _ _ _ h k => ownsRow_ext h k) | exact (fun _ _ _ h k => RB.extC h k) | exact (fun _ _ _ h k => FB.extC h k) | exact (fun _ _ _ h k => Rd.extC h k) | exact (fun _ _ _ h k => RP.ext h k) | exact (fun _ _ _ h k => RE.ext h k)) ?_ ?_) | (refine wpM_call1 (fun v _ => v = .int .i64 z) rfl rfl (by first | exact mono_eq | exact (fun _ _ _ ⟨n, h1, h2, h3⟩ k => ⟨n, h1, h2, h3.ext k⟩) | exact (fun _ _ _ h k => RB.ext h k) | exact (fun _ _ _ h k => OB.ext h k) | exact (fun _ _ _ h k => Rd.ext h k) | exact (fun _ _ _ h k => ownsRow_ext h k) | exact (fun _ _ _ h k => RB.extC h k) | exact (fun _ _ _ h k => FB.extC h k) | exact (fun _ _ _ h k => Rd.extC h k) | exact (fun _ _ _ h k => RP.ext h k) | exact (fun _ _ _ h k => RE.ext h k)) ?_ ?_)
        · intro a w' hR h1 h2 h3 K hK
          have e1 : _ = _ := h1
          have e2 : _ = _ := h2
          have e3 : _ = _ := h3
          go_simp
          refine (HCM.out w').mono ?_
          rintro e w2 ⟨rfl, he⟩
          exact hK _ _ he rfl
        repeat (first | ((first | (refine wpM_move00 Ext.refl rfl rfl rfl ?_) | (refine wpM_move01 Ext.refl rfl rfl rfl rfl ?_)); apply Exists.intro; refine ⟨?_, ?_⟩; · (go_simp; rfl)) | (first | (refine wpM_movek0 Ext.refl rfl rfl rfl ?_) | (refine wpM_movek1 Ext.refl rfl rfl rfl rfl ?_)) | ((first | (refine wpM_val0 Ext.refl rfl ?_) | (refine wpM_val1 Ext.refl rfl rfl ?_)); apply Exists.intro; refine ⟨?_, ?_⟩; · (intro a w' hR; intro h1; (first | (have e1 : _ = _ := h1) | skip); intro h2; (first | (have e2 : _ = _ := h2) | skip); go_simp; rfl)) | ((first | (refine wpM_val0 Ext.refl rfl ?_) | (refine wpM_val1 Ext.refl rfl rfl ?_)); apply Exists.intro; refine ⟨?_, ?_⟩; · (intro a w' hR; intro h1; (first | (have e1 : _ = _ := h1) | skip); go_simp; rfl)) | ((first | (refine wpM_val0 Ext.refl rfl ?_) | (refine wpM_val1 Ext.refl rfl rfl ?_)); apply Exists.intro; refine ⟨?_, ?_⟩; · (intro a w' hR; go_simp; rfl)) | ((first | (refine wpM_val0 Ext.refl rfl ?_) | (refine wpM_val1 Ext.refl rfl rfl ?_)); apply Exists.intro; refine ⟨?_, ?_⟩; · (intro a w' hR; intro h1; (first | (have e1 : _ = _ := h1) | skip); intro h2; (first | (have e2 : _ = _ := h2) | skip); intro h3; (first | (have e3 : _ = _ := h3) | skip); go_simp; rfl)) | (refine wpM_skip1 rfl ?_) | (refine wpM_skipU rfl ?_))
        refine wpM_done ?_
        intro w5 hx5
        iterate 6 (rintro _ rfl)
        dsimp only [FinV]
        go_simp
        have HX5 := Lib.hid (HE.out.trans hx5)
        clear hx5
        go_wp2
        have hn := HNJ.out
        exact ⟨⟨_, rfl, .inl ⟨j, rfl, by omega, HYS.out⟩, HX5.out⟩, by simp [intOf]; omega⟩
    · have HY := Lib.hid (show Rec.Asc l by
        rcases hz with ⟨n, hn, hlt, hasc⟩ | q
        · obtain rfl : n = 0 := by omega
          simpa using hasc
        · exact q.2)
      clear hext hz
      go_wp2
      go_ret
      exact .inr ⟨rfl, HY.out, HE.out⟩

set_option maxRecDepth 100000 in
set_option maxHeartbeats 2000000 in
theorem recSorted_any (v : Value) (l : List Rec.R) (w : World) (hv : RP w v l) (hl : l.length ≤ 1000000) :
    Calls Try.prog 36 #[v] w fun e w' => ∃ b, e = .returned (.bool b) ∧ (b = true ↔ Rec.Asc l) ∧ Ext w w' := by
  have HC := Lib.hid (isSorted_any v l w hv hl)
  clear hv hl
  go_enter Try.func36, Try.ntmps36
  go_wp2_with fail
  refine HC.out.mono ?_
  rintro e1 w1 ⟨b, rfl, hb, he1⟩
  go_wp2
  go_ret
  exact ⟨b, rfl, hb, he1⟩
end Go.Proofs.Ytgmaeeihfoicmaa
namespace Go.Proofs.Ytgmaeeihfoicmaa
open Go.RowKit Go.Ox Go.Shelf
attribute [local irreducible] OP RP
set_option linter.unusedVariables false
set_option linter.unusedSimpArgs false

/-- of the first k in order: each that is not as the one ahead of it -/
def disUp (s : List Rec.R) : Nat → List Rec.R
  | 0 => []
  | k + 1 => disUp s k ++ (match s[k]? with
    | some y => if k = 0 ∨ s[k - 1]? ≠ some y then [y] else []
    | none => [])
theorem disUp_len (s : List Rec.R) : ∀ k, (disUp s k).length ≤ k
  | 0 => Nat.le_refl _
  | k + 1 => by
    have := disUp_len s k
    unfold disUp
    rw [List.length_append]
    split
    · split <;> simp <;> omega
    · simp; omega
theorem disUp_0 {s : List Rec.R} (h : 0 < s.length) : disUp s 1 = [s[0]] := by simp [disUp, h]
theorem disUp_t {s : List Rec.R} {j : Nat} (h : j + 1 < s.length) (hq : s[j + 1] = s[j]) : disUp s (j + 1 + 1) = disUp s (j + 1) := by
  conv => lhs; unfold disUp
  rw [List.getElem?_eq_getElem h]
  have : s[j + 1 - 1]? = some s[j + 1] := by rw [Nat.add_sub_cancel, List.getElem?_eq_getElem (by omega), hq]
  simp [hq, List.getElem?_eq_getElem (show j < s.length by omega)]
theorem disUp_f {s : List Rec.R} {j : Nat} (h : j + 1 < s.length) (hq : ¬ s[j + 1] = s[j]) : disUp s (j + 1 + 1) = disUp s (j + 1) ++ [s[j + 1]] := by
  conv => lhs; unfold disUp
  rw [List.getElem?_eq_getElem h]
  have : s[j]? ≠ some s[j + 1] := by rw [List.getElem?_eq_getElem (by omega)]; intro e; injection e with e; exact hq e.symm
  simp [this]
/-- each record once, in order -/
def dis (l : List Rec.R) : List Rec.R := disUp (Rec.srt l) l.length
set_option maxRecDepth 100000 in
set_option maxHeartbeats 4000000 in
theorem rdistinct_any (v : Value) (l : List Rec.R) (w : World) (hv : RP w v l) (hl : l.length ≤ 1000000) :
    Calls Try.prog 41 #[v] w fun e w' => ∃ v', e = .returned v' ∧ OP 23 w.heap.size w' v' (dis l) ∧ Ext w w' := by
  have HS := Lib.hid (rsort_any l v w hv hl)
  have hsl := Rec.srt_len l
  have HD := Lib.hid (show disUp (Rec.srt l) (Rec.srt l).length = dis l by unfold dis; rw [hsl])
  generalize Rec.srt l = S at *
  have hSl : S.length ≤ 1000000 := by omega
  have HSL := Lib.hid hSl
  obtain ⟨A, c, rfl⟩ := hv.form
  clear hv hl hsl hSl
  have hE := neM
  have hG := guardM
  go_enter Try.func41, Try.ntmps41
  go_wp2_with fail
  refine HS.out.mono ?_
  rintro e1 w1 ⟨v1, rfl, ho1, he1⟩
  have HV := Lib.hid ho1.rp
  have HX1 := Lib.hid he1
  obtain ⟨A1, c1, rfl⟩ := ho1.rp.form
  clear ho1 he1 HS
  go_wp2
  go_loopw [4, 5] (fun o iv wr => ∃ k : Nat, k ≤ S.length ∧ iv = .int .i64 (k : Int) ∧ OP 23 w1.heap.size wr o (disUp S k) ∧ Ext w1 wr) (fun _ iv _ => S.length - (intOf iv).toNat)
  case atStart => exact ⟨0, Nat.zero_le _, rfl, OP.nilS _ _ _, Ext.refl _⟩
  case round =>
    obtain ⟨k, hk, rfl, ho, hext⟩ := hrel
    have HE := Lib.hid hext
    have HO := Lib.hid ho
    obtain ⟨AO, cO, rfl⟩ := ho.rp.form
    have hout := disUp_len S k
    have hSl := HSL.out
    have HOUT := Lib.hid (show (disUp S k).length ≤ 1000000 by omega)
    have HK := Lib.hid hk
    clear ho hout hSl
    by_cases hlt : k < S.length
    · have HLT2 := Lib.hid hlt
      have g1 : (k : Int) < (S.length : Int) := by omega
      have g0 : 0 ≤ (k : Int) := by omega
      obtain ⟨bA, oA, rfl, xa, xb⟩ := (HV.out.ext hext).at_ (k := k) hlt
      rcases k with _ | j
      · have HN := Lib.hid (show disUp S (0 + 1) = disUp S 0 ++ [S[0]] from (disUp_0 hlt).trans rfl)
        generalize S[0] = x at *
        generalize disUp S 0 = out at *
        obtain ⟨x1, x2⟩ := x
        dsimp only at *
        clear hext hk hlt
        have xa : wr.cell? ⟨bA, oA, none⟩ = some (.int .i64 x1) := by simpa using xa
        have xb : wr.cell? ⟨bA, oA + 1, none⟩ = some (.int .i64 x2) := by simpa using xb
        have g4 : (((0 : Nat) : Int) == 0) = true := rfl
        go_wp2
        refine wp_region_ext (by kernel_rfl) (by rfl) (by rfl) (by kernel_rfl) ?_
        repeat (first | ((first | (refine wpM_move00 Ext.refl rfl rfl rfl ?_) | (refine wpM_move01 Ext.refl rfl rfl rfl rfl ?_)); apply Exists.intro; refine ⟨?_, ?_⟩; · (go_simp; rfl)) | (first | (refine wpM_movek0 Ext.refl rfl rfl rfl ?_) | (refine wpM_movek1 Ext.refl rfl rfl rfl rfl ?_)) | ((first | (refine wpM_val0 Ext.refl rfl ?_) | (refine wpM_val1 Ext.refl rfl rfl ?_)); apply Exists.intro; refine ⟨?_, ?_⟩; · (intro a w' hR; intro h1; (first | (have e1 : _ = _ := h1) | skip); intro h2; (first | (have e2 : _ = _ := h2) | skip); go_simp; rfl)) | ((first | (refine wpM_val0 Ext.refl rfl ?_) | (refine wpM_val1 Ext.refl rfl rfl ?_)); apply Exists.intro; refine ⟨?_, ?_⟩; · (intro a w' hR; intro h1; (first | (have e1 : _ = _ := h1) | skip); go_simp; rfl)) | ((first | (refine wpM_val0 Ext.refl rfl ?_) | (refine wpM_val1 Ext.refl rfl rfl ?_)); apply Exists.intro; refine ⟨?_, ?_⟩; · (intro a w' hR; go_simp; rfl)) | ((first | (refine wpM_val0 Ext.refl rfl ?_) | (refine wpM_val1 Ext.refl rfl rfl ?_)); apply Exists.intro; refine ⟨?_, ?_⟩; · (intro a w' hR; intro h1; (first | (have e1 : _ = _ := h1) | skip); intro h2; (first | (have e2 : _ = _ := h2) | skip); intro h3; (first | (have e3 : _ = _ := h3) | skip); go_simp; rfl)) | (refine wpM_skip1 rfl ?_) | (refine wpM_skipU rfl ?_))
        refine wpM_done ?_
        intro w5 hx5
        iterate 14 (rintro _ rfl)
        dsimp only [FinV]
        go_simp
        have HX5 := Lib.hid (HE.out.trans hx5)
        have xa := hx5.cell xa
        have xb := hx5.cell xb
        have hxl : Ext w5 (w5.alloc (.cells #[.int .i64 x1, .int .i64 x2] 23)) := (Ext.refl _).alloc _
        have HLT := Lib.hid (RP.lit w5 #[.int .i64 x1, .int .i64 x2] 23 1 [(x1, x2)] rfl (by omega) rfl)
        have HOL := Lib.hid ((HO.out.ext hx5).ext hxl)
        have HXL := Lib.hid (HX5.out.trans hxl)
        clear hxl hx5
        go_wp2_with (at_builtin; refine wpList_app rfl elemM _ _ _ rfl w1.heap.size _ out.length _ rfl HOL.out.own _ 1 _ rfl HLT.out.rd (one_pV _) (by have := HOUT.out; omega) (by have := HOUT.out; unfold maxLen; omega) HXL.out.size ?_; intro v7 w7 ha)
        exact ⟨⟨0 + 1, by have := HLT2.out; omega, by go_num, by rw [HN.out]; exact OP.app ha.own, ha.ext HXL.out rfl HOL.out.own⟩, by have := HLT2.out; simp [intOf]; omega⟩
      · have hj1 : j < S.length := by omega
        obtain ⟨bB, oB, hq2, ya, yb⟩ := (HV.out.ext hext).at_ (k := j) hj1
        cases hq2
        have HT := Lib.hid (disUp_t hlt)
        have HN := Lib.hid (disUp_f hlt)
        obtain ⟨n, hn⟩ : ∃ n, n = j + 1 := ⟨_, rfl⟩
        have g4 : ((n : Int) == 0) = false := by rw [beq_eq_false_iff_ne]; omega
        have g5 : (j : Int) < (S.length : Int) := by omega
        have g6 : 0 ≤ (j : Int) := by omega
        have hwr : IntKind.i64.wrap ((n : Int) - 1) = (j : Int) := by
          have := HSL.out
          rw [IntWalk.i64_in _ (by omega)]; omega
        have HNJ := Lib.hid hn
        generalize S[j] = y at *
        generalize S[j + 1] = x at *
        generalize disUp S (j + 1) = out at *
        obtain ⟨x1, x2⟩ := x
        obtain ⟨y1, y2⟩ := y
        dsimp only at *
        rw [← hn] at xa xb g1 g0 ⊢
        have hnb : n ≤ 1000000 := by have := HSL.out; omega
        clear hext hk hlt hj1 hn
        by_cases hxy : (x1, x2) = (y1, y2)
        · have HD2 := Lib.hid (HT.out hxy)
          have hd := pairB_t hxy
          clear hxy HT HN
          go_wp2
          refine wp_region_ext (by kernel_rfl) (by rfl) (by rfl) (by kernel_rfl) ?_
          repeat (first | ((first | (refine wpM_move00 Ext.refl rfl rfl rfl ?_) | (refine wpM_move01 Ext.refl rfl rfl rfl rfl ?_)); apply Exists.intro; refine ⟨?_, ?_⟩; · (go_simp; rfl)) | (first | (refine wpM_movek0 Ext.refl rfl rfl rfl ?_) | (refine wpM_movek1 Ext.refl rfl rfl rfl rfl ?_)) | ((first | (refine wpM_val0 Ext.refl rfl ?_) | (refine wpM_val1 Ext.refl rfl rfl ?_)); apply Exists.intro; refine ⟨?_, ?_⟩; · (intro a w' hR; intro h1; (first | (have e1 : _ = _ := h1) | skip); intro h2; (first | (have e2 : _ = _ := h2) | skip); go_simp; rfl)) | ((first | (refine wpM_val0 Ext.refl rfl ?_) | (refine wpM_val1 Ext.refl rfl rfl ?_)); apply Exists.intro; refine ⟨?_, ?_⟩; · (intro a w' hR; intro h1; (first | (have e1 : _ = _ := h1) | skip); go_simp; rfl)) | ((first | (refine wpM_val0 Ext.refl rfl ?_) | (refine wpM_val1 Ext.refl rfl rfl ?_)); apply Exists.intro; refine ⟨?_, ?_⟩; · (intro a w' hR; go_simp; rfl)) | ((first | (refine wpM_val0 Ext.refl rfl ?_) | (refine wpM_val1 Ext.refl rfl rfl ?_)); apply Exists.intro; refine ⟨?_, ?_⟩; · (intro a w' hR; intro h1; (first | (have e1 : _ = _ := h1) | skip); intro h2; (first | (have e2 : _ = _ := h2) | skip); intro h3; (first | (have e3 : _ = _ := h3) | skip); go_simp; rfl)) | (refine wpM_skip1 rfl ?_) | (refine wpM_skipU rfl ?_))
          (first | (refine wpM_val0 Ext.refl rfl ?_) | (refine wpM_val1 Ext.refl rfl rfl ?_)); apply Exists.intro; refine ⟨?_, ?_⟩
          · intro a w' hR h1
            have e1 : _ = _ := h1
            have hl0 := hR.cell xa
            have hl1 := hR.cell xb
            go_simp
            rfl
          repeat (first | ((first | (refine wpM_move00 Ext.refl rfl rfl rfl ?_) | (refine wpM_move01 Ext.refl rfl rfl rfl rfl ?_)); apply Exists.intro; refine ⟨?_, ?_⟩; · (go_simp; rfl)) | (first | (refine wpM_movek0 Ext.refl rfl rfl rfl ?_) | (refine wpM_movek1 Ext.refl rfl rfl rfl rfl ?_)) | ((first | (refine wpM_val0 Ext.refl rfl ?_) | (refine wpM_val1 Ext.refl rfl rfl ?_)); apply Exists.intro; refine ⟨?_, ?_⟩; · (intro a w' hR; intro h1; (first | (have e1 : _ = _ := h1) | skip); intro h2; (first | (have e2 : _ = _ := h2) | skip); go_simp; rfl)) | ((first | (refine wpM_val0 Ext.refl rfl ?_) | (refine wpM_val1 Ext.refl rfl rfl ?_)); apply Exists.intro; refine ⟨?_, ?_⟩; · (intro a w' hR; intro h1; (first | (have e1 : _ = _ := h1) | skip); go_simp; rfl)) | ((first | (refine wpM_val0 Ext.refl rfl ?_) | (refine wpM_val1 Ext.refl rfl rfl ?_)); apply Exists.intro; refine ⟨?_, ?_⟩; · (intro a w' hR; go_simp; rfl)) | ((first | (refine wpM_val0 Ext.refl rfl ?_) | (refine wpM_val1 Ext.refl rfl rfl ?_)); apply Exists.intro; refine ⟨?_, ?_⟩; · (intro a w' hR; intro h1; (first | (have e1 : _ = _ := h1) | skip); intro h2; (first | (have e2 : _ = _ := h2) | skip); intro h3; (first | (have e3 : _ = _ := h3) | skip); go_simp; rfl)) | (refine wpM_skip1 rfl ?_) | (refine wpM_skipU rfl ?_))
          (first | (refine wpM_val0 Ext.refl rfl ?_) | (refine wpM_val1 Ext.refl rfl rfl ?_)); apply Exists.intro; refine ⟨?_, ?_⟩
          · intro a w' hR h1
            have e1 : _ = _ := h1
            have hl0 := hR.cell ya
            have hl1 := hR.cell yb
            go_simp
            rfl
          repeat (first | ((first | (refine wpM_move00 Ext.refl rfl rfl rfl ?_) | (refine wpM_move01 Ext.refl rfl rfl rfl rfl ?_)); apply Exists.intro; refine ⟨?_, ?_⟩; · (go_simp; rfl)) | (first | (refine wpM_movek0 Ext.refl rfl rfl rfl ?_) | (refine wpM_movek1 Ext.refl rfl rfl rfl rfl ?_)) | ((first | (refine wpM_val0 Ext.refl rfl ?_) | (refine wpM_val1 Ext.refl rfl rfl ?_)); apply Exists.intro; refine ⟨?_, ?_⟩; · (intro a w' hR; intro h1; (first | (have e1 : _ = _ := h1) | skip); intro h2; (first | (have e2 : _ = _ := h2) | skip); go_simp; rfl)) | ((first | (refine wpM_val0 Ext.refl rfl ?_) | (refine wpM_val1 Ext.refl rfl rfl ?_)); apply Exists.intro; refine ⟨?_, ?_⟩; · (intro a w' hR; intro h1; (first | (have e1 : _ = _ := h1) | skip); go_simp; rfl)) | ((first | (refine wpM_val0 Ext.refl rfl ?_) | (refine wpM_val1 Ext.refl rfl rfl ?_)); apply Exists.intro; refine ⟨?_, ?_⟩; · (intro a w' hR; go_simp; rfl)) | ((first | (refine wpM_val0 Ext.refl rfl ?_) | (refine wpM_val1 Ext.refl rfl rfl ?_)); apply Exists.intro; refine ⟨?_, ?_⟩; · (intro a w' hR; intro h1; (first | (have e1 : _ = _ := h1) | skip); intro h2; (first | (have e2 : _ = _ := h2) | skip); intro h3; (first | (have e3 : _ = _ := h3) | skip); go_simp; rfl)) | (refine wpM_skip1 rfl ?_) | (refine wpM_skipU rfl ?_))
          refine wpM_done ?_
          intro w5 hx5
          iterate 14 (rintro _ rfl)
          dsimp only [FinV]
          go_simp
          have HX5 := Lib.hid (HE.out.trans hx5)
          have HO5 := Lib.hid (HO.out.ext hx5)
          clear hx5
          go_wp2
          exact ⟨⟨j + 1 + 1, by have := HLT2.out; omega, by rw [← HNJ.out]; go_num, by rw [HD2.out]; exact HO5.out, HX5.out⟩, by have := HLT2.out; have := HNJ.out; simp [intOf]; omega⟩
        · have HD2 := Lib.hid (HN.out hxy)
          have hd := pairB_f hxy
          clear hxy HT HN
          go_wp2
          refine wp_region_ext (by kernel_rfl) (by rfl) (by rfl) (by kernel_rfl) ?_
          repeat (first | ((first | (refine wpM_move00 Ext.refl rfl rfl rfl ?_) | (refine wpM_move01 Ext.refl rfl rfl rfl rfl ?_)); apply Exists.intro; refine ⟨?_, ?_⟩; · (go_simp; rfl)) | (first | (refine wpM_movek0 Ext.refl rfl rfl rfl ?_) | (refine wpM_movek1 Ext.refl rfl rfl rfl rfl ?_)) | ((first | (refine wpM_val0 Ext.refl rfl ?_) | (refine wpM_val1 Ext.refl rfl rfl ?_)); apply Exists.intro; refine ⟨?_, ?_⟩; · (intro a w' hR; intro h1; (first | (have e1 : _ = _ := h1) | skip); intro h2; (first | (have e2 : _ = _ := h2) | skip); go_simp; rfl)) | ((first | (refine wpM_val0 Ext.refl rfl ?_) | (refine wpM_val1 Ext.refl rfl rfl ?_)); apply Exists.intro; refine ⟨?_, ?_⟩; · (intro a w' hR; intro h1; (first | (have e1 : _ = _ := h1) | skip); go_simp; rfl)) | ((first | (refine wpM_val0 Ext.refl rfl ?_) | (refine wpM_val1 Ext.refl rfl rfl ?_)); apply Exists.intro; refine ⟨?_, ?_⟩; · (intro a w' hR; go_simp; rfl)) | ((first | (refine wpM_val0 Ext.refl rfl ?_) | (refine wpM_val1 Ext.refl rfl rfl ?_)); apply Exists.intro; refine ⟨?_, ?_⟩; · (intro a w' hR; intro h1; (first | (have e1 : _ = _ := h1) | skip); intro h2; (first | (have e2 : _ = _ := h2) | skip); intro h3; (first | (have e3 : _ = _ := h3) | skip); go_simp; rfl)) | (refine wpM_skip1 rfl ?_) | (refine wpM_skipU rfl ?_))
          (first | (refine wpM_val0 Ext.refl rfl ?_) | (refine wpM_val1 Ext.refl rfl rfl ?_)); apply Exists.intro; refine ⟨?_, ?_⟩
          · intro a w' hR h1
            have e1 : _ = _ := h1
            have hl0 := hR.cell xa
            have hl1 := hR.cell xb
            go_simp
            rfl
          repeat (first | ((first | (refine wpM_move00 Ext.refl rfl rfl rfl ?_) | (refine wpM_move01 Ext.refl rfl rfl rfl rfl ?_)); apply Exists.intro; refine ⟨?_, ?_⟩; · (go_simp; rfl)) | (first | (refine wpM_movek0 Ext.refl rfl rfl rfl ?_) | (refine wpM_movek1 Ext.refl rfl rfl rfl rfl ?_)) | ((first | (refine wpM_val0 Ext.refl rfl ?_) | (refine wpM_val1 Ext.refl rfl rfl ?_)); apply Exists.intro; refine ⟨?_, ?_⟩; · (intro a w' hR; intro h1; (first | (have e1 : _ = _ := h1) | skip); intro h2; (first | (have e2 : _ = _ := h2) | skip); go_simp; rfl)) | ((first | (refine wpM_val0 Ext.refl rfl ?_) | (refine wpM_val1 Ext.refl rfl rfl ?_)); apply Exists.intro; refine ⟨?_, ?_⟩; · (intro a w' hR; intro h1; (first | (have e1 : _ = _ := h1) | skip); go_simp; rfl)) | ((first | (refine wpM_val0 Ext.refl rfl ?_) | (refine wpM_val1 Ext.refl rfl rfl ?_)); apply Exists.intro; refine ⟨?_, ?_⟩; · (intro a w' hR; go_simp; rfl)) | ((first | (refine wpM_val0 Ext.refl rfl ?_) | (refine wpM_val1 Ext.refl rfl rfl ?_)); apply Exists.intro; refine ⟨?_, ?_⟩; · (intro a w' hR; intro h1; (first | (have e1 : _ = _ := h1) | skip); intro h2; (first | (have e2 : _ = _ := h2) | skip); intro h3; (first | (have e3 : _ = _ := h3) | skip); go_simp; rfl)) | (refine wpM_skip1 rfl ?_) | (refine wpM_skipU rfl ?_))
          (first | (refine wpM_val0 Ext.refl rfl ?_) | (refine wpM_val1 Ext.refl rfl rfl ?_)); apply Exists.intro; refine ⟨?_, ?_⟩
          · intro a w' hR h1
            have e1 : _ = _ := h1
            have hl0 := hR.cell ya
            have hl1 := hR.cell yb
            go_simp
            rfl
          repeat (first | ((first | (refine wpM_move00 Ext.refl rfl rfl rfl ?_) | (refine wpM_move01 Ext.refl rfl rfl rfl rfl ?_)); apply Exists.intro; refine ⟨?_, ?_⟩; · (go_simp; rfl)) | (first | (refine wpM_movek0 Ext.refl rfl rfl rfl ?_) | (refine wpM_movek1 Ext.refl rfl rfl rfl rfl ?_)) | ((first | (refine wpM_val0 Ext.refl rfl ?_) | (refine wpM_val1 Ext.refl rfl rfl ?_)); apply Exists.intro; refine ⟨?_, ?_⟩; · (intro a w' hR; intro h1; (first | (have e1 : _ = _ := h1) | skip); intro h2; (first | (have e2 : _ = _ := h2) | skip); go_simp; rfl)) | ((first | (refine wpM_val0 Ext.refl rfl ?_) | (refine wpM_val1 Ext.refl rfl rfl ?_)); apply Exists.intro; refine ⟨?_, ?_⟩; · (intro a w' hR; intro h1; (first | (have e1 : _ = _ := h1) | skip); go_simp; rfl)) | ((first | (refine wpM_val0 Ext.refl rfl ?_) | (refine wpM_val1 Ext.refl rfl rfl ?_)); apply Exists.intro; refine ⟨?_, ?_⟩; · (intro a w' hR; go_simp; rfl)) | ((first | (refine wpM_val0 Ext.refl rfl ?_) | (refine wpM_val1 Ext.refl rfl rfl ?_)); apply Exists.intro; refine ⟨?_, ?_⟩; · (intro a w' hR; intro h1; (first | (have e1 : _ = _ := h1) | skip); intro h2; (first | (have e2 : _ = _ := h2) | skip); intro h3; (first | (have e3 : _ = _ := h3) | skip); go_simp; rfl)) | (refine wpM_skip1 rfl ?_) | (refine wpM_skipU rfl ?_))
          refine wpM_done ?_
          intro w5 hx5
          iterate 14 (rintro _ rfl)
          dsimp only [FinV]
          go_simp
          have HX5 := Lib.hid (HE.out.trans hx5)
          have xa := hx5.cell xa
          have xb := hx5.cell xb
          have hxl : Ext w5 (w5.alloc (.cells #[.int .i64 x1, .int .i64 x2] 23)) := (Ext.refl _).alloc _
          have HLT := Lib.hid (RP.lit w5 #[.int .i64 x1, .int .i64 x2] 23 1 [(x1, x2)] rfl (by omega) rfl)
          have HOL := Lib.hid ((HO.out.ext hx5).ext hxl)
          have HXL := Lib.hid (HX5.out.trans hxl)
          clear hxl hx5
          go_wp2_with (at_builtin; refine wpList_app rfl elemM _ _ _ rfl w1.heap.size _ out.length _ rfl HOL.out.own _ 1 _ rfl HLT.out.rd (one_pV _) (by have := HOUT.out; omega) (by have := HOUT.out; unfold maxLen; omega) HXL.out.size ?_; intro v7 w7 ha)
          exact ⟨⟨j + 1 + 1, by have := HLT2.out; omega, by rw [← HNJ.out]; go_num, by rw [HD2.out]; exact OP.app ha.own, ha.ext HXL.out rfl HOL.out.own⟩, by have := HLT2.out; have := HNJ.out; simp [intOf]; omega⟩
    · have hk2 : k = S.length := by omega
      have g1 : ¬ (k : Int) < (S.length : Int) := by omega
      have HF := Lib.hid (show disUp S k = dis l by rw [hk2]; exact HD.out)
      clear hext hk hlt hk2
      generalize disUp S k = out at *
      go_wp2
      go_ret
      rw [← HF.out]
      exact ⟨_, rfl, HO.out.low HX1.out.size, HX1.out.trans HE.out⟩
end Go.Proofs.Ytgmaeeihfoicmaa
