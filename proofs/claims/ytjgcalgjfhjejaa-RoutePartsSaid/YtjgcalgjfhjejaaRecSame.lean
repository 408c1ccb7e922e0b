/-
  The walks on records: how often one is there; the document's word on which bags may be.
  The walks of the document's answer on records: in order; the same bag.
  slices.Equal at records; whether two bags are the same. (Printed by gen_recsame.py.)
  rec.Sorted (slices.IsSortedFunc at records).
  The document's Distinct on records.
-/
import Derived.Test.YtjgcalgjfhjejaaRecRef
namespace Go.Proofs.Ytjgcalgjfhjejaa
open Go.RowKit Go.Ox Go.Shelf
attribute [local irreducible] OP RP
set_option linter.unusedVariables false
set_option linter.unusedSimpArgs false

/-- how often -/
def cntR (l : List Rec.R) (r : Rec.R) : Nat := l.countP fun x => decide (x = r)
theorem cntR_s (l : List Rec.R) (r : Rec.R) (k : Nat) (h : k < l.length) : cntR (l.take (k + 1)) r = cntR (l.take k) r + (if l[k] = r then 1 else 0) := by
  unfold cntR
  rw [List.take_succ_eq_append_getElem h, List.countP_append]
  by_cases hq : l[k] = r <;> simp [hq]
theorem cntR_le (l : List Rec.R) (r : Rec.R) (k : Nat) : cntR (l.take k) r ≤ k := by
  unfold cntR
  have := List.countP_le_length (p := fun x => decide (x = r)) (l := l.take k)
  rw [List.length_take] at this
  omega
theorem all_take_r (l : List Rec.R) (p : Rec.R → Bool) (k : Nat) (h : k < l.length) : (l.take (k + 1)).all p = ((l.take k).all p && p l[k]) := by
  rw [List.take_succ_eq_append_getElem h, List.all_append]; simp

set_option maxRecDepth 100000 in
set_option maxHeartbeats 2000000 in
theorem rcount_any (v : Value) (l : List Rec.R) (r : Rec.R) (w : World) (hv : RP w v l) (hl : l.length ≤ 1000000) :
    Calls Try.prog 17 #[v, mV r] w fun e w' => e = .returned (.int .i64 (cntR l r : Int)) ∧ Ext w w' := by
  obtain ⟨A, c, rfl⟩ := hv.form
  obtain ⟨r1, r2⟩ := r
  have hx0 := (Ext.refl w).alloc (.cells #[.int .i64 r1, .int .i64 r2] 42)
  have HX0 := Lib.hid hx0
  have HV := Lib.hid (hv.ext hx0)
  have HB := Lib.hid (Blk.new w 42 #[.int .i64 r1, .int .i64 r2])
  have hE := eqM
  have hG := guardM
  clear hv hx0
  go_enter Try.func17, Try.ntmps17
  go_wp2
  generalize w.alloc (.cells #[.int .i64 r1, .int .i64 r2] 42) = w0 at *
  go_loopw [5, 6] (fun o iv wr => ∃ k : Nat, k ≤ l.length ∧ iv = .int .i64 k ∧ o = .int .i64 (cntR (l.take k) (r1, r2) : Int) ∧ Ext w0 wr) (fun _ iv _ => l.length - (intOf iv).toNat)
  case atStart => exact ⟨0, Nat.zero_le _, rfl, rfl, Ext.refl _⟩
  case round =>
    obtain ⟨k, hk, rfl, rfl, hext⟩ := hrel
    have HE := Lib.hid hext
    by_cases hlt : k < l.length
    · have g1 : (k : Int) < (l.length : Int) := by omega
      have g0 : 0 ≤ (k : Int) := by omega
      obtain ⟨bA, oA, rfl, c0, c1⟩ := (HV.out.ext hext).at_ hlt
      have d0 : wr.cell? ⟨w.heap.size, 0, none⟩ = some (.int .i64 r1) := (HB.out.ext hext).cell 0
      have d1 : wr.cell? ⟨w.heap.size, 1, none⟩ = some (.int .i64 r2) := (HB.out.ext hext).cell 1
      have HS := Lib.hid (cntR_s l (r1, r2) k hlt)
      have hle := cntR_le l (r1, r2) k
      generalize cntR (l.take k) (r1, r2) = n at *
      generalize l[k] = x at *
      obtain ⟨x1, x2⟩ := x
      dsimp only at *
      clear hext
      by_cases hq : (x1, x2) = (r1, r2)
      · have hd := pairB_t hq
        rw [if_pos hq] at HS
        clear hq
        go_wp2
        refine wp_region_ext (by kernel_rfl) (by rfl) (by rfl) (by kernel_rfl) ?_
        repeat (first | ((first | (refine wpM_move00 Ext.refl rfl rfl rfl ?_) | (refine wpM_move01 Ext.refl rfl rfl rfl rfl ?_)); apply Exists.intro; refine ⟨?_, ?_⟩; · (go_simp; rfl)) | (first | (refine wpM_movek0 Ext.refl rfl rfl rfl ?_) | (refine wpM_movek1 Ext.refl rfl rfl rfl rfl ?_)) | ((first | (refine wpM_val0 Ext.refl rfl ?_) | (refine wpM_val1 Ext.refl rfl rfl ?_)); apply Exists.intro; refine ⟨?_, ?_⟩; · (intro a w' hR; intro h1; (first | (have e1 : _ = _ := h1) | skip); intro h2; (first | (have e2 : _ = _ := h2) | skip); go_simp; rfl)) | ((first | (refine wpM_val0 Ext.refl rfl ?_) | (refine wpM_val1 Ext.refl rfl rfl ?_)); apply Exists.intro; refine ⟨?_, ?_⟩; · (intro a w' hR; intro h1; (first | (have e1 : _ = _ := h1) | skip); go_simp; rfl)) | ((first | (refine wpM_val0 Ext.refl rfl ?_) | (refine wpM_val1 Ext.refl rfl rfl ?_)); apply Exists.intro; refine ⟨?_, ?_⟩; · (intro a w' hR; go_simp; rfl)) | ((first | (refine wpM_val0 Ext.refl rfl ?_) | (refine wpM_val1 Ext.refl rfl rfl ?_)); apply Exists.intro; refine ⟨?_, ?_⟩; · (intro a w' hR; intro h1; (first | (have e1 : _ = _ := h1) | skip); intro h2; (first | (have e2 : _ = _ := h2) | skip); intro h3; (first | (have e3 : _ = _ := h3) | skip); go_simp; rfl)) | (refine wpM_skip1 rfl ?_) | (refine wpM_skipU rfl ?_))
        (first | (refine wpM_val0 Ext.refl rfl ?_) | (refine wpM_val1 Ext.refl rfl rfl ?_)); apply Exists.intro; refine ⟨?_, ?_⟩
        · intro a w' hR h1
          have e1 : _ = _ := h1
          have hl0 := hR.cell c0
          have hl1 := hR.cell c1
          go_simp
          rfl
        (first | (refine wpM_val0 Ext.refl rfl ?_) | (refine wpM_val1 Ext.refl rfl rfl ?_)); apply Exists.intro; refine ⟨?_, ?_⟩
        · intro a w' hR h1
          have e1 : _ = _ := h1
          have hl0 := hR.cell d0
          have hl1 := hR.cell d1
          go_simp
          rfl
        repeat (first | ((first | (refine wpM_move00 Ext.refl rfl rfl rfl ?_) | (refine wpM_move01 Ext.refl rfl rfl rfl rfl ?_)); apply Exists.intro; refine ⟨?_, ?_⟩; · (go_simp; rfl)) | (first | (refine wpM_movek0 Ext.refl rfl rfl rfl ?_) | (refine wpM_movek1 Ext.refl rfl rfl rfl rfl ?_)) | ((first | (refine wpM_val0 Ext.refl rfl ?_) | (refine wpM_val1 Ext.refl rfl rfl ?_)); apply Exists.intro; refine ⟨?_, ?_⟩; · (intro a w' hR; intro h1; (first | (have e1 : _ = _ := h1) | skip); intro h2; (first | (have e2 : _ = _ := h2) | skip); go_simp; rfl)) | ((first | (refine wpM_val0 Ext.refl rfl ?_) | (refine wpM_val1 Ext.refl rfl rfl ?_)); apply Exists.intro; refine ⟨?_, ?_⟩; · (intro a w' hR; intro h1; (first | (have e1 : _ = _ := h1) | skip); go_simp; rfl)) | ((first | (refine wpM_val0 Ext.refl rfl ?_) | (refine wpM_val1 Ext.refl rfl rfl ?_)); apply Exists.intro; refine ⟨?_, ?_⟩; · (intro a w' hR; go_simp; rfl)) | ((first | (refine wpM_val0 Ext.refl rfl ?_) | (refine wpM_val1 Ext.refl rfl rfl ?_)); apply Exists.intro; refine ⟨?_, ?_⟩; · (intro a w' hR; intro h1; (first | (have e1 : _ = _ := h1) | skip); intro h2; (first | (have e2 : _ = _ := h2) | skip); intro h3; (first | (have e3 : _ = _ := h3) | skip); go_simp; rfl)) | (refine wpM_skip1 rfl ?_) | (refine wpM_skipU rfl ?_))
        refine wpM_done ?_
        intro w5 hx5
        iterate 6 (rintro _ rfl)
        dsimp only [FinV]
        go_simp
        have HX5 := Lib.hid (HE.out.trans hx5)
        clear hx5
        go_wp2
        exact ⟨⟨k + 1, by omega, by go_num, by rw [HS.out]; go_num, HX5.out⟩, by simp [intOf]; omega⟩
      · have hd := pairB_f hq
        rw [if_neg hq] at HS
        clear hq
        go_wp2
        refine wp_region_ext (by kernel_rfl) (by rfl) (by rfl) (by kernel_rfl) ?_
        repeat (first | ((first | (refine wpM_move00 Ext.refl rfl rfl rfl ?_) | (refine wpM_move01 Ext.refl rfl rfl rfl rfl ?_)); apply Exists.intro; refine ⟨?_, ?_⟩; · (go_simp; rfl)) | (first | (refine wpM_movek0 Ext.refl rfl rfl rfl ?_) | (refine wpM_movek1 Ext.refl rfl rfl rfl rfl ?_)) | ((first | (refine wpM_val0 Ext.refl rfl ?_) | (refine wpM_val1 Ext.refl rfl rfl ?_)); apply Exists.intro; refine ⟨?_, ?_⟩; · (intro a w' hR; intro h1; (first | (have e1 : _ = _ := h1) | skip); intro h2; (first | (have e2 : _ = _ := h2) | skip); go_simp; rfl)) | ((first | (refine wpM_val0 Ext.refl rfl ?_) | (refine wpM_val1 Ext.refl rfl rfl ?_)); apply Exists.intro; refine ⟨?_, ?_⟩; · (intro a w' hR; intro h1; (first | (have e1 : _ = _ := h1) | skip); go_simp; rfl)) | ((first | (refine wpM_val0 Ext.refl rfl ?_) | (refine wpM_val1 Ext.refl rfl rfl ?_)); apply Exists.intro; refine ⟨?_, ?_⟩; · (intro a w' hR; go_simp; rfl)) | ((first | (refine wpM_val0 Ext.refl rfl ?_) | (refine wpM_val1 Ext.refl rfl rfl ?_)); apply Exists.intro; refine ⟨?_, ?_⟩; · (intro a w' hR; intro h1; (first | (have e1 : _ = _ := h1) | skip); intro h2; (first | (have e2 : _ = _ := h2) | skip); intro h3; (first | (have e3 : _ = _ := h3) | skip); go_simp; rfl)) | (refine wpM_skip1 rfl ?_) | (refine wpM_skipU rfl ?_))
        (first | (refine wpM_val0 Ext.refl rfl ?_) | (refine wpM_val1 Ext.refl rfl rfl ?_)); apply Exists.intro; refine ⟨?_, ?_⟩
        · intro a w' hR h1
          have e1 : _ = _ := h1
          have hl0 := hR.cell c0
          have hl1 := hR.cell c1
          go_simp
          rfl
        (first | (refine wpM_val0 Ext.refl rfl ?_) | (refine wpM_val1 Ext.refl rfl rfl ?_)); apply Exists.intro; refine ⟨?_, ?_⟩
        · intro a w' hR h1
          have e1 : _ = _ := h1
          have hl0 := hR.cell d0
          have hl1 := hR.cell d1
          go_simp
          rfl
        repeat (first | ((first | (refine wpM_move00 Ext.refl rfl rfl rfl ?_) | (refine wpM_move01 Ext.refl rfl rfl rfl rfl ?_)); apply Exists.intro; refine ⟨?_, ?_⟩; · (go_simp; rfl)) | (first | (refine wpM_movek0 Ext.refl rfl rfl rfl ?_) | (refine wpM_movek1 Ext.refl rfl rfl rfl rfl ?_)) | ((first | (refine wpM_val0 Ext.refl rfl ?_) | (refine wpM_val1 Ext.refl rfl rfl ?_)); apply Exists.intro; refine ⟨?_, ?_⟩; · (intro a w' hR; intro h1; (first | (have e1 : _ = _ := h1) | skip); intro h2; (first | (have e2 : _ = _ := h2) | skip); go_simp; rfl)) | ((first | (refine wpM_val0 Ext.refl rfl ?_) | (refine wpM_val1 Ext.refl rfl rfl ?_)); apply Exists.intro; refine ⟨?_, ?_⟩; · (intro a w' hR; intro h1; (first | (have e1 : _ = _ := h1) | skip); go_simp; rfl)) | ((first | (refine wpM_val0 Ext.refl rfl ?_) | (refine wpM_val1 Ext.refl rfl rfl ?_)); apply Exists.intro; refine ⟨?_, ?_⟩; · (intro a w' hR; go_simp; rfl)) | ((first | (refine wpM_val0 Ext.refl rfl ?_) | (refine wpM_val1 Ext.refl rfl rfl ?_)); apply Exists.intro; refine ⟨?_, ?_⟩; · (intro a w' hR; intro h1; (first | (have e1 : _ = _ := h1) | skip); intro h2; (first | (have e2 : _ = _ := h2) | skip); intro h3; (first | (have e3 : _ = _ := h3) | skip); go_simp; rfl)) | (refine wpM_skip1 rfl ?_) | (refine wpM_skipU rfl ?_))
        refine wpM_done ?_
        intro w5 hx5
        iterate 6 (rintro _ rfl)
        dsimp only [FinV]
        go_simp
        have HX5 := Lib.hid (HE.out.trans hx5)
        clear hx5
        go_wp2
        exact ⟨⟨k + 1, by omega, by go_num, by rw [HS.out, Nat.add_zero], HX5.out⟩, by simp [intOf]; omega⟩
    · obtain rfl : k = l.length := by omega
      have g1 : ¬ (l.length : Int) < (l.length : Int) := by omega
      rw [List.take_length]
      clear hext
      go_wp2
      go_ret
      exact ⟨rfl, HX0.out.trans HE.out⟩

set_option maxRecDepth 100000 in
set_option maxHeartbeats 2000000 in
theorem rmay_any (v : Value) (l : List Rec.R) (w : World) (hv : RP w v l) (hl : l.length ≤ 1000000) :
    Calls Try.prog 13 #[v] w fun e w' => e = .returned (.int .i64 (Rec.may l)) ∧ Ext w w' := by
  obtain ⟨A, c, rfl⟩ := hv.form
  have HV := Lib.hid hv
  clear hv
  go_enter Try.func13, Try.ntmps13
  go_wp2
  go_loopw [3] (fun iv wr => ∃ k : Nat, k ≤ l.length ∧ iv = .int .i64 k ∧ (l.take k).all Rec.ok = true ∧ Ext w wr) (fun iv _ => l.length - (intOf iv).toNat)
  case atStart => exact ⟨0, Nat.zero_le _, rfl, rfl, Ext.refl _⟩
  case round =>
    obtain ⟨k, hk, rfl, hok, hext⟩ := hrel
    have HE := Lib.hid hext
    have HOK := Lib.hid hok
    clear hok
    by_cases hlt : k < l.length
    · have g1 : (k : Int) < (l.length : Int) := by omega
      have g0 : 0 ≤ (k : Int) := by omega
      obtain ⟨bA, oA, rfl, c0, c1⟩ := (HV.out.ext hext).at_ hlt
      have HS := Lib.hid (all_take_r l Rec.ok k hlt)
      have HBAD := Lib.hid (show Rec.ok l[k] = false → Rec.may l = 30 from fun hq => by
        unfold Rec.may
        rw [if_pos (List.any_eq_true.2 ⟨l[k], List.getElem_mem hlt, by rw [hq]; rfl⟩)])
      generalize l[k] = x at *
      obtain ⟨x1, x2⟩ := x
      dsimp only at *
      have HCK := Lib.hid (fun w => rcheck_any (x1, x2) w)
      clear hext
      cases hq : Rec.ok (x1, x2) with
      | true =>
        rw [hq] at HCK
        have HN := Lib.hid (show (l.take (k + 1)).all Rec.ok = true by rw [HS.out, hq, HOK.out]; rfl)
        clear hq
        go_wp2_with fail
        refine (HCK.out _).mono ?_
        rintro e w6 ⟨rfl, he6⟩
        go_wp2_with fail
        exact ⟨⟨k + 1, by omega, by go_num, HN.out, HE.out.trans he6⟩, by simp [intOf]; omega⟩
      | false =>
        rw [hq] at HCK
        have HM := Lib.hid (HBAD.out hq)
        clear hq
        go_wp2_with fail
        refine (HCK.out _).mono ?_
        rintro e w6 ⟨rfl, he6⟩
        go_wp2_with fail
        go_ret
        rw [HM.out]
        exact ⟨rfl, HE.out.trans he6⟩
    · obtain rfl : k = l.length := by omega
      have g1 : ¬ (l.length : Int) < (l.length : Int) := by omega
      have hany : (l.any fun x => !Rec.ok x) = false := by
        have := HOK.out
        rw [List.take_length] at this
        rw [List.any_eq_false]
        intro x hx
        have := List.all_eq_true.1 this x hx
        simp [this]
      clear hext
      by_cases h2 : 4096 < l.length
      · have g : (4096 : Int) < (l.length : Int) := by omega
        have HM := Lib.hid (show Rec.may l = 31 by unfold Rec.may; rw [hany, if_neg (by simp), if_pos h2])
        clear hany h2
        go_wp2
        go_ret
        rw [HM.out]
        exact ⟨rfl, HE.out⟩
      · have g : ¬ (4096 : Int) < (l.length : Int) := by omega
        have HM := Lib.hid (show Rec.may l = 0 by unfold Rec.may; rw [hany, if_neg (by simp), if_neg h2])
        clear hany h2
        go_wp2
        go_ret
        rw [HM.out]
        exact ⟨rfl, HE.out⟩
end Go.Proofs.Ytjgcalgjfhjejaa
namespace Go.Proofs.Ytjgcalgjfhjejaa
open Go.RowKit Go.Ox Go.Shelf
attribute [local irreducible] OP RP
set_option linter.unusedVariables false
set_option linter.unusedSimpArgs false

theorem rasc_s {l : List Rec.R} {j : Nat} (h : j + 1 < l.length) (ha : Rec.Asc (l.take (j + 1))) (hc : ¬ Mom.lt l[j + 1] l[j]) : Rec.Asc (l.take (j + 1 + 1)) := by
  rw [List.take_succ_eq_append_getElem h]
  refine List.pairwise_append.2 ⟨ha, List.pairwise_singleton _ _, ?_⟩
  intro x hx y hy
  rw [List.mem_singleton.1 hy]
  refine Rec.not_lt_trans ?_ hc
  rw [List.take_succ_eq_append_getElem (by omega)] at ha hx
  rcases List.mem_append.1 hx with q | q
  · exact (List.pairwise_append.1 ha).2.2 x q _ (List.mem_singleton.2 rfl)
  · rw [List.mem_singleton.1 q]; unfold Mom.lt; omega
theorem rasc_not {l : List Rec.R} {j : Nat} (h : j + 1 < l.length) (hc : Mom.lt l[j + 1] l[j]) : ¬ Rec.Asc l := fun ha =>
  (List.pairwise_iff_getElem.1 ha j (j + 1) (by omega) h (by omega)) hc
theorem rasc_1 (l : List Rec.R) : Rec.Asc (l.take 1) := by
  match l with
  | [] => exact List.Pairwise.nil
  | x :: r => exact List.pairwise_singleton _ _
theorem rasc_short {l : List Rec.R} (h : l.length ≤ 1) : Rec.Asc l := by
  match l, h with
  | [], _ => exact List.Pairwise.nil
  | [x], _ => exact List.pairwise_singleton _ _

end Go.Proofs.Ytjgcalgjfhjejaa
namespace Go.Proofs.Ytjgcalgjfhjejaa
open Go.RowKit Go.Ox Go.Shelf
attribute [local irreducible] OP RP
set_option linter.unusedVariables false
set_option linter.unusedSimpArgs false
end Go.Proofs.Ytjgcalgjfhjejaa
namespace Go.Proofs.Ytjgcalgjfhjejaa
open Go.RowKit Go.Ox Go.Shelf
attribute [local irreducible] OP RP
set_option linter.unusedVariables false
set_option linter.unusedSimpArgs false

theorem rasc_down {l : List Rec.R} {j : Nat} (h : j + 1 < l.length) (ha : Rec.Asc (l.drop (j + 1))) (hc : ¬ Mom.lt l[j + 1] l[j]) : Rec.Asc (l.drop j) := by
  rw [List.drop_eq_getElem_cons (by omega)]
  refine List.pairwise_cons.2 ⟨?_, ha⟩
  intro y hy
  rw [List.drop_eq_getElem_cons h] at ha hy
  rcases List.mem_cons.1 hy with q | q
  · rw [q]; exact hc
  · exact Rec.not_lt_trans hc ((List.pairwise_cons.1 ha).1 y q)
theorem rasc_last (l : List Rec.R) : Rec.Asc (l.drop (l.length - 1)) := rasc_short (by rw [List.length_drop]; omega)

end Go.Proofs.Ytjgcalgjfhjejaa
namespace Go.Proofs.Ytjgcalgjfhjejaa
open Go.RowKit Go.Ox Go.Shelf
attribute [local irreducible] OP RP
set_option linter.unusedVariables false
set_option linter.unusedSimpArgs false

/-- of the first k in order: each that is not as the one ahead of it -/
def disUp (s : List Rec.R) : Nat → List Rec.R
  | 0 => []
  | k + 1 => disUp s k ++ (match s[k]? with
    | some y => if k = 0 ∨ s[k - 1]? ≠ some y then [y] else []
    | none => [])
theorem disUp_len (s : List Rec.R) : ∀ k, (disUp s k).length ≤ k
  | 0 => Nat.le_refl _
  | k + 1 => by
    have := disUp_len s k
    unfold disUp
    rw [List.length_append]
    split
    · split <;> simp <;> omega
    · simp; omega
theorem disUp_0 {s : List Rec.R} (h : 0 < s.length) : disUp s 1 = [s[0]] := by simp [disUp, h]
theorem disUp_t {s : List Rec.R} {j : Nat} (h : j + 1 < s.length) (hq : s[j + 1] = s[j]) : disUp s (j + 1 + 1) = disUp s (j + 1) := by
  conv => lhs; unfold disUp
  rw [List.getElem?_eq_getElem h]
  have : s[j + 1 - 1]? = some s[j + 1] := by rw [Nat.add_sub_cancel, List.getElem?_eq_getElem (by omega), hq]
  simp [hq, List.getElem?_eq_getElem (show j < s.length by omega)]
theorem disUp_f {s : List Rec.R} {j : Nat} (h : j + 1 < s.length) (hq : ¬ s[j + 1] = s[j]) : disUp s (j + 1 + 1) = disUp s (j + 1) ++ [s[j + 1]] := by
  conv => lhs; unfold disUp
  rw [List.getElem?_eq_getElem h]
  have : s[j]? ≠ some s[j + 1] := by rw [List.getElem?_eq_getElem (by omega)]; intro e; injection e with e; exact hq e.symm
  simp [this]
/-- each record once, in order -/
def dis (l : List Rec.R) : List Rec.R := disUp (Rec.srt l) l.length
end Go.Proofs.Ytjgcalgjfhjejaa
