/-
  RecSame, packed: what the claim needs of them.
-/
import Derived.Test.YtpmpjjhchkoboaaGreatDoorPc25
open Go.Lib (hid)
set_option maxHeartbeats 400000
set_option linter.unusedSimpArgs false
set_option linter.unusedVariables false
set_option maxRecDepth 100000
namespace Go.Proofs.YtpmpjjhchkoboaaGreatDoor
open Go.RowKit Go.Ox Go.Shelf
attribute [local irreducible] OP RP
def cntR (l : List Rec.R) (r : Rec.R) : Nat := l.countP fun x => decide (x = r)
theorem all_take_r (l : List Rec.R) (p : Rec.R → Bool) (k : Nat) (h : k < l.length) : (l.take (k + 1)).all p = ((l.take k).all p && p l[k]) := by
 rw [List.take_succ_eq_append_getElem h, List.all_append]; simp
set_option maxHeartbeats 2000000 in
theorem rmay_any (v : Value) (l : List Rec.R) (w : World) (hv : RP w v l) (hl : l.length ≤ 1000000) :
 Calls Tryz.prog 37 #[v] w fun e w' => e = .returned (.int .i64 (Rec.may l)) ∧ Ext w w' := by
 obtain ⟨A, c, rfl⟩ := hv.form
 have HV := hid hv
 clear hv
 go_enter Tryz.func37, Tryz.ntmps37
 go_wp2
 go_loopw [3] (fun iv wr => ∃ k : Nat, k ≤ l.length ∧ iv = .int .i64 k ∧ (l.take k).all Rec.ok = true ∧ Ext w wr) (fun iv _ => l.length - (intOf iv).toNat)
 case atStart => exact ⟨0, Nat.zero_le _, rfl, rfl, Ext.refl _⟩
 case round =>
  obtain ⟨k, hk, rfl, hok, hext⟩ := hrel
  have HE := hid hext
  have HOK := hid hok
  clear hok
  by_cases hlt : k < l.length
  · have g1 : (k : Int) < (l.length : Int) := by omega
    have g0 : 0 ≤ (k : Int) := by omega
    obtain ⟨bA, oA, rfl, c0, c1⟩ := (HV.out.ext hext).at_ hlt
    have HS := hid (all_take_r l Rec.ok k hlt)
    have HBAD := hid (show Rec.ok l[k] = false → Rec.may l = 30 from fun hq => by
     unfold Rec.may
     rw [if_pos (List.any_eq_true.2 ⟨l[k], List.getElem_mem hlt, by rw [hq]; rfl⟩)])
    generalize l[k] = x at *
    obtain ⟨x1, x2⟩ := x
    dsimp only at *
    have HCK := hid (fun w => rcheck_any (x1, x2) w)
    clear hext
    cases hq : Rec.ok (x1, x2) with
    | true =>
     rw [hq] at HCK
     have HN := hid (show (l.take (k + 1)).all Rec.ok = true by rw [HS.out, hq, HOK.out]; rfl)
     clear hq
     go_wp2_with fail
     refine (HCK.out _).mono ?_
     rintro e w6 ⟨rfl, he6⟩
     go_wp2_with fail
     exact ⟨⟨k + 1, by omega, by go_num, HN.out, HE.out.trans he6⟩, by simp [intOf]; omega⟩
    | false =>
     rw [hq] at HCK
     have HM := hid (HBAD.out hq)
     clear hq
     go_wp2_with fail
     refine (HCK.out _).mono ?_
     rintro e w6 ⟨rfl, he6⟩
     go_wp2_with fail
     go_ret
     rw [HM.out]
     exact ⟨rfl, HE.out.trans he6⟩
  · obtain rfl : k = l.length := by omega
    have g1 : ¬ (l.length : Int) < (l.length : Int) := by omega
    have hany : (l.any fun x => !Rec.ok x) = false := by
     have := HOK.out
     rw [List.take_length] at this
     rw [List.any_eq_false]
     intro x hx
     have := List.all_eq_true.1 this x hx
     simp [this]
    clear hext
    by_cases h2 : 4096 < l.length
    · have g : (4096 : Int) < (l.length : Int) := by omega
      have HM := hid (show Rec.may l = 31 by unfold Rec.may; rw [hany, if_neg (by simp), if_pos h2])
      clear hany h2
      go_wp2
      go_ret
      rw [HM.out]
      exact ⟨rfl, HE.out⟩
    · have g : ¬ (4096 : Int) < (l.length : Int) := by omega
      have HM := hid (show Rec.may l = 0 by unfold Rec.may; rw [hany, if_neg (by simp), if_neg h2])
      clear hany h2
      go_wp2
      go_ret
      rw [HM.out]
      exact ⟨rfl, HE.out⟩
end Go.Proofs.YtpmpjjhchkoboaaGreatDoor
namespace Go.Proofs.YtpmpjjhchkoboaaGreatDoor
open Go.RowKit Go.Ox Go.Shelf
attribute [local irreducible] OP RP
theorem rasc_s {l : List Rec.R} {j : Nat} (h : j + 1 < l.length) (ha : Rec.Asc (l.take (j + 1))) (hc : ¬ Mom.lt l[j + 1] l[j]) : Rec.Asc (l.take (j + 1 + 1)) := by
 rw [List.take_succ_eq_append_getElem h]
 refine List.pairwise_append.2 ⟨ha, List.pairwise_singleton _ _, ?_⟩
 intro x hx y hy
 rw [List.mem_singleton.1 hy]
 refine Rec.not_lt_trans ?_ hc
 rw [List.take_succ_eq_append_getElem (by omega)] at ha hx
 rcases List.mem_append.1 hx with q | q
 · exact (List.pairwise_append.1 ha).2.2 x q _ (List.mem_singleton.2 rfl)
 · rw [List.mem_singleton.1 q]; unfold Mom.lt; omega
theorem rasc_not {l : List Rec.R} {j : Nat} (h : j + 1 < l.length) (hc : Mom.lt l[j + 1] l[j]) : ¬ Rec.Asc l := fun ha =>
 (List.pairwise_iff_getElem.1 ha j (j + 1) (by omega) h (by omega)) hc
theorem rasc_1 (l : List Rec.R) : Rec.Asc (l.take 1) := by
 match l with
 | [] => exact List.Pairwise.nil
 | x :: r => exact List.pairwise_singleton _ _
theorem rasc_short {l : List Rec.R} (h : l.length ≤ 1) : Rec.Asc l := by
 match l, h with
 | [], _ => exact List.Pairwise.nil
 | [x], _ => exact List.pairwise_singleton _ _
set_option maxHeartbeats 4000000 in
theorem rsorted_any (v : Value) (l : List Rec.R) (w : World) (hv : RP w v l) (hl : l.length ≤ 1000000) :
 Calls Tryz.prog 113 #[v] w fun e w' => ∃ b, e = .returned (.bool b) ∧ (b = true ↔ Rec.Asc l) ∧ Ext w w' := by
 obtain ⟨A, c, rfl⟩ := hv.form
 have HV := hid hv
 have HL := hid hl
 clear hv
 go_enter Tryz.func113, Tryz.ntmps113
 go_wp2
 go_loopw [3] (fun iv wr => ∃ j n : Nat, n = j + 1 ∧ (j = 0 ∨ j < l.length) ∧ iv = .int .i64 (n : Int) ∧ Rec.Asc (l.take (j + 1)) ∧ Ext w wr) (fun iv _ => l.length + 1 - (intOf iv).toNat)
 case atStart => exact ⟨0, 1, rfl, .inl rfl, rfl, rasc_1 l, Ext.refl _⟩
 case round =>
  obtain ⟨j, n, hn, hj, rfl, hasc, hext⟩ := hrel
  have HNJ := hid hn
  have HE := hid hext
  have HA := hid hasc
  clear hasc
  by_cases hlt : j + 1 < l.length
  · have g0 : 0 ≤ (j : Int) := by omega
    have g1 : (j : Int) < (l.length : Int) := by omega
    have g2 : (n : Int) < (l.length : Int) := by omega
    have g3 : 0 ≤ (n : Int) := by omega
    obtain ⟨bA, oA, rfl, c0, c1⟩ := (HV.out.ext hext).at_ (k := j) (by omega)
    obtain ⟨bB, oB, hq2, d0, d1⟩ := (HV.out.ext hext).at_ hlt
    cases hq2
    have HS := hid (fun hc => rasc_s hlt HA.out hc)
    have HN := hid (fun hc => rasc_not hlt hc)
    have HCM := hid (fun w => rcompare_any l[j] l[j + 1] w)
    have HQ := hid (show 0 < Mom.cmp l[j] l[j + 1] ↔ Mom.lt l[j + 1] l[j] by rw [← Mom.cmp_lt, Mom.cmp_flip l[j] l[j + 1]]; omega)
    have hwr : IntKind.i64.wrap ((n : Int) - 1) = (j : Int) := by rw [IntWalk.i64_in _ (by omega)]; omega
    have HJ := hid hlt
    generalize l[j] = x at *
    generalize l[j + 1] = y at *
    obtain ⟨x1, x2⟩ := x
    obtain ⟨y1, y2⟩ := y
    dsimp only at *
    rw [← hn] at d0 d1
    generalize Mom.cmp (x1, x2) (y1, y2) = z at *
    clear hext
    clear hn
    by_cases hz : 0 < z
    · have HNO := hid (HN.out (HQ.out.1 hz))
      clear HS HN HQ
      go_wp2
      refine wp_region_ext (by kernel_rfl) (by rfl) (by rfl) (by kernel_rfl) ?_
      repeat (first | ((first | (refine wpM_move00 Ext.refl rfl rfl rfl ?_) | (refine wpM_move01 Ext.refl rfl rfl rfl rfl ?_)); apply Exists.intro; refine ⟨?_, ?_⟩; · (go_simp; rfl)) | (first | (refine wpM_movek0 Ext.refl rfl rfl rfl ?_) | (refine wpM_movek1 Ext.refl rfl rfl rfl rfl ?_)) | ((first | (refine wpM_val0 Ext.refl rfl ?_) | (refine wpM_val1 Ext.refl rfl rfl ?_)); apply Exists.intro; refine ⟨?_, ?_⟩; · (intro a w' hR; (try (intro h1; try have e1 : _ = _ := h1)); (try (intro h2; try have e2 : _ = _ := h2)); (try (intro h3; try have e3 : _ = _ := h3)); go_simp; rfl)) | (refine wpM_skip1 rfl ?_) | (refine wpM_skipU rfl ?_))
      (first | (refine wpM_val0 Ext.refl rfl ?_) | (refine wpM_val1 Ext.refl rfl rfl ?_)); apply Exists.intro; refine ⟨?_, ?_⟩
      · intro a w' hR h1
        have e1 : _ = _ := h1
        have hl0 := hR.cell c0
        have hl1 := hR.cell c1
        go_simp
        rfl
      repeat (first | ((first | (refine wpM_move00 Ext.refl rfl rfl rfl ?_) | (refine wpM_move01 Ext.refl rfl rfl rfl rfl ?_)); apply Exists.intro; refine ⟨?_, ?_⟩; · (go_simp; rfl)) | (first | (refine wpM_movek0 Ext.refl rfl rfl rfl ?_) | (refine wpM_movek1 Ext.refl rfl rfl rfl rfl ?_)) | ((first | (refine wpM_val0 Ext.refl rfl ?_) | (refine wpM_val1 Ext.refl rfl rfl ?_)); apply Exists.intro; refine ⟨?_, ?_⟩; · (intro a w' hR; (try (intro h1; try have e1 : _ = _ := h1)); (try (intro h2; try have e2 : _ = _ := h2)); (try (intro h3; try have e3 : _ = _ := h3)); go_simp; rfl)) | (refine wpM_skip1 rfl ?_) | (refine wpM_skipU rfl ?_))
      (first | (refine wpM_val0 Ext.refl rfl ?_) | (refine wpM_val1 Ext.refl rfl rfl ?_)); apply Exists.intro; refine ⟨?_, ?_⟩
      · intro a w' hR h1
        have e1 : _ = _ := h1
        have hl0 := hR.cell d0
        have hl1 := hR.cell d1
        go_simp
        rfl
      first | (refine wpM_call0 (fun v _ => v = .int .i64 z) rfl (by exact mono_eq) ?_ ?_) | (refine wpM_call1 (fun v _ => v = .int .i64 z) rfl rfl (by exact mono_eq) ?_ ?_)
      · intro a w' hR h1 h2 K hK
        have e1 : _ = _ := h1
        have e2 : _ = _ := h2
        go_simp
        refine (HCM.out w').mono ?_
        rintro e w2 ⟨rfl, he⟩
        exact hK _ _ he rfl
      repeat (first | ((first | (refine wpM_move00 Ext.refl rfl rfl rfl ?_) | (refine wpM_move01 Ext.refl rfl rfl rfl rfl ?_)); apply Exists.intro; refine ⟨?_, ?_⟩; · (go_simp; rfl)) | (first | (refine wpM_movek0 Ext.refl rfl rfl rfl ?_) | (refine wpM_movek1 Ext.refl rfl rfl rfl rfl ?_)) | ((first | (refine wpM_val0 Ext.refl rfl ?_) | (refine wpM_val1 Ext.refl rfl rfl ?_)); apply Exists.intro; refine ⟨?_, ?_⟩; · (intro a w' hR; (try (intro h1; try have e1 : _ = _ := h1)); (try (intro h2; try have e2 : _ = _ := h2)); (try (intro h3; try have e3 : _ = _ := h3)); go_simp; rfl)) | (refine wpM_skip1 rfl ?_) | (refine wpM_skipU rfl ?_))
      refine wpM_done ?_
      intro w5 hx5
      iterate 6 (rintro _ rfl)
      dsimp only [FinV]
      go_simp
      have HX5 := hid (HE.out.trans hx5)
      clear hx5
      go_wp2
      go_ret
      exact ⟨_, rfl, ⟨fun h => by simp at h, fun h => absurd h HNO.out⟩, HX5.out⟩
    · have HYS := hid (HS.out fun h => hz (HQ.out.2 h))
      clear HS HN HQ
      go_wp2
      refine wp_region_ext (by kernel_rfl) (by rfl) (by rfl) (by kernel_rfl) ?_
      repeat (first | ((first | (refine wpM_move00 Ext.refl rfl rfl rfl ?_) | (refine wpM_move01 Ext.refl rfl rfl rfl rfl ?_)); apply Exists.intro; refine ⟨?_, ?_⟩; · (go_simp; rfl)) | (first | (refine wpM_movek0 Ext.refl rfl rfl rfl ?_) | (refine wpM_movek1 Ext.refl rfl rfl rfl rfl ?_)) | ((first | (refine wpM_val0 Ext.refl rfl ?_) | (refine wpM_val1 Ext.refl rfl rfl ?_)); apply Exists.intro; refine ⟨?_, ?_⟩; · (intro a w' hR; (try (intro h1; try have e1 : _ = _ := h1)); (try (intro h2; try have e2 : _ = _ := h2)); (try (intro h3; try have e3 : _ = _ := h3)); go_simp; rfl)) | (refine wpM_skip1 rfl ?_) | (refine wpM_skipU rfl ?_))
      (first | (refine wpM_val0 Ext.refl rfl ?_) | (refine wpM_val1 Ext.refl rfl rfl ?_)); apply Exists.intro; refine ⟨?_, ?_⟩
      · intro a w' hR h1
        have e1 : _ = _ := h1
        have hl0 := hR.cell c0
        have hl1 := hR.cell c1
        go_simp
        rfl
      repeat (first | ((first | (refine wpM_move00 Ext.refl rfl rfl rfl ?_) | (refine wpM_move01 Ext.refl rfl rfl rfl rfl ?_)); apply Exists.intro; refine ⟨?_, ?_⟩; · (go_simp; rfl)) | (first | (refine wpM_movek0 Ext.refl rfl rfl rfl ?_) | (refine wpM_movek1 Ext.refl rfl rfl rfl rfl ?_)) | ((first | (refine wpM_val0 Ext.refl rfl ?_) | (refine wpM_val1 Ext.refl rfl rfl ?_)); apply Exists.intro; refine ⟨?_, ?_⟩; · (intro a w' hR; (try (intro h1; try have e1 : _ = _ := h1)); (try (intro h2; try have e2 : _ = _ := h2)); (try (intro h3; try have e3 : _ = _ := h3)); go_simp; rfl)) | (refine wpM_skip1 rfl ?_) | (refine wpM_skipU rfl ?_))
      (first | (refine wpM_val0 Ext.refl rfl ?_) | (refine wpM_val1 Ext.refl rfl rfl ?_)); apply Exists.intro; refine ⟨?_, ?_⟩
      · intro a w' hR h1
        have e1 : _ = _ := h1
        have hl0 := hR.cell d0
        have hl1 := hR.cell d1
        go_simp
        rfl
      first | (refine wpM_call0 (fun v _ => v = .int .i64 z) rfl (by exact mono_eq) ?_ ?_) | (refine wpM_call1 (fun v _ => v = .int .i64 z) rfl rfl (by exact mono_eq) ?_ ?_)
      · intro a w' hR h1 h2 K hK
        have e1 : _ = _ := h1
        have e2 : _ = _ := h2
        go_simp
        refine (HCM.out w').mono ?_
        rintro e w2 ⟨rfl, he⟩
        exact hK _ _ he rfl
      repeat (first | ((first | (refine wpM_move00 Ext.refl rfl rfl rfl ?_) | (refine wpM_move01 Ext.refl rfl rfl rfl rfl ?_)); apply Exists.intro; refine ⟨?_, ?_⟩; · (go_simp; rfl)) | (first | (refine wpM_movek0 Ext.refl rfl rfl rfl ?_) | (refine wpM_movek1 Ext.refl rfl rfl rfl rfl ?_)) | ((first | (refine wpM_val0 Ext.refl rfl ?_) | (refine wpM_val1 Ext.refl rfl rfl ?_)); apply Exists.intro; refine ⟨?_, ?_⟩; · (intro a w' hR; (try (intro h1; try have e1 : _ = _ := h1)); (try (intro h2; try have e2 : _ = _ := h2)); (try (intro h3; try have e3 : _ = _ := h3)); go_simp; rfl)) | (refine wpM_skip1 rfl ?_) | (refine wpM_skipU rfl ?_))
      refine wpM_done ?_
      intro w5 hx5
      iterate 6 (rintro _ rfl)
      dsimp only [FinV]
      go_simp
      have HX5 := hid (HE.out.trans hx5)
      clear hx5
      go_wp2
      have hn := HNJ.out
      exact ⟨⟨j + 1, n + 1, by omega, .inr (by omega), by go_num, HYS.out, HX5.out⟩, by simp [intOf]; omega⟩
  · have g1 : ¬ (n : Int) < (l.length : Int) := by omega
    have HY := hid (show Rec.Asc l by
     by_cases h1 : l.length ≤ 1
     · exact rasc_short h1
     · have := HA.out
       rwa [List.take_of_length_le (by omega)] at this)
    clear hext hn
    go_wp2
    go_ret
    exact .inr ⟨rfl, HY.out, HE.out⟩
set_option maxHeartbeats 2000000 in
theorem rsame_any (v u : Value) (l r : List Rec.R) (w : World) (hv : RP w v l) (hu : RP w u r) (hl : l.length ≤ 1000000) (hr : r.length ≤ 1000000) :
 Calls Tryz.prog 33 #[v, u] w fun e w' => e = .returned (.bool (decide (Rec.srt l = Rec.srt r))) ∧ Ext w w' := by
 obtain ⟨A, c, rfl⟩ := hv.form
 obtain ⟨B, d, rfl⟩ := hu.form
 by_cases hlen : l.length = r.length
 · have HV := hid hv
   have HU := hid hu
   have g1 : ((l.length : Int) == (r.length : Int)) = true := by rw [hlen]; exact beq_self_eq_true _
   have HSL := hid (fun w hv => rsort_any l (.slice A l.length c) w hv hl)
   have HSR := hid (fun w hu => rsort_any r (.slice B r.length d) w hu hr)
   clear hv hu hlen hl hr
   go_enter Tryz.func33, Tryz.ntmps33
   go_wp2_with fail
   refine (HSL.out _ HV.out).mono ?_
   rintro e1 w1 ⟨v1, rfl, ho1, he1⟩
   go_wp2_with fail
   refine (HSR.out _ (HU.out.ext he1)).mono ?_
   rintro e2 w2 ⟨v2, rfl, ho2, he2⟩
   go_wp2_with fail
   refine (exact_any _ _ _ _ _ (ho1.ext he2).rp ho2.rp).mono ?_
   rintro e3 w3 ⟨rfl, he3⟩
   go_wp2
   go_ret
   exact ⟨rfl, (he1.trans he2).trans he3⟩
 · have g1 : ((l.length : Int) == (r.length : Int)) = false := by rw [beq_eq_false_iff_ne]; omega
   have HN := hid (show ¬ Rec.srt l = Rec.srt r from fun h => hlen (by rw [← Rec.srt_len l, ← Rec.srt_len r, h]))
   clear hv hu hlen
   go_enter Tryz.func33, Tryz.ntmps33
   go_wp2
   go_ret
   exact ⟨by rw [decide_eq_false HN.out]; rfl, Ext.refl _⟩
end Go.Proofs.YtpmpjjhchkoboaaGreatDoor
namespace Go.Proofs.YtpmpjjhchkoboaaGreatDoor
open Go.RowKit Go.Ox Go.Shelf
attribute [local irreducible] OP RP
theorem equalM_len (A B : Option Addr) (n m c d : Nat) (w : World) (hne : n ≠ m) : Calls Tryz.prog 74 #[.slice A n c, .slice B m d] w fun e w' => e = .returned (.bool false) ∧ w = w' := by
 have h1 : ((n : Int) != (m : Int)) = true := by rw [bne_iff_ne]; omega
 go_enter Tryz.func74, Tryz.ntmps74
 go_wp2
 go_ret
 exact ⟨rfl, rfl⟩
theorem equalM_any (v u : Value) (l r : List Rec.R) (w : World) (hv : RP w v l) (hu : RP w u r) : Calls Tryz.prog 74 #[v, u] w fun e w' => e = .returned (.bool (decide (l = r))) ∧ Ext w w' := by
 obtain ⟨A, c, rfl⟩ := hv.form
 obtain ⟨B, d, rfl⟩ := hu.form
 by_cases hl : l.length = r.length
 · have HV := hid hv
   have HU := hid hu
   have HL := hid hl
   have hlb : l.length ≤ 9223372036854775807 := by have := hv.nc; unfold maxLen at this; omega
   rw [← hl] at HU ⊢
   clear hv hu hl
   have hE := neM
   have HE := hid (eqInM)
   have hG := guardM
   go_enter Tryz.func74, Tryz.ntmps74
   go_wp2
   go_loopw [13] (fun i wr => ∃ k : Nat, k ≤ l.length ∧ i = .int .i64 k ∧ l.take k = r.take k ∧ Ext w wr) (fun i _ => l.length - (intOf i).toNat)
   case atStart => exact ⟨0, Nat.zero_le _, rfl, by simp, Ext.refl _⟩
   case round =>
    obtain ⟨k, hk, rfl, ht, hext⟩ := hrel
    have HT := hid ht
    have HX := hid hext
    clear ht hext
    by_cases hlt : k < l.length
    · have g1 : (k : Int) < (l.length : Int) := by omega
      have g0 : 0 ≤ (k : Int) := by omega
      have hlr : k < r.length := by have := HL.out; omega
      obtain ⟨b1, o1, rfl, c1, c2⟩ := HV.out.at_ hlt
      obtain ⟨b2, o2, rfl, c3, c4⟩ := HU.out.at_ hlr
      have c1 := HX.out.cell c1
      have c2 := HX.out.cell c2
      have c3 := HX.out.cell c3
      have c4 := HX.out.cell c4
      obtain ⟨hst, hsn⟩ := list_eq_at l r k hlt hlr HT.out
      have HST := hid hst
      have HSN := hid hsn
      clear hst hsn
      generalize l[k] = x at *
      generalize r[k] = y at *
      obtain ⟨x1, x2⟩ := x
      obtain ⟨y1, y2⟩ := y
      dsimp only at *
      by_cases hxy : (x1, x2) = (y1, y2)
      · have HN := hid (HST.out hxy)
        have hd := pairB_t hxy
        clear hxy HST HSN
        go_wp2
        refine wp_regionY [] [] Ext Ext (fun _ => True) (by kernel_rfl) (by rfl) (by rfl) (by kernel_rfl) (by kernel_rfl) (by kernel_rfl) (fun _ _ _ x y => x.trans y) Ext.refl (fun _ _ x => x) (Ext.refl _).drew (fun _ _ x _ => x) trivial ?_
        repeat (first | (refine wpY_move0 rfl rfl (runsX rfl) Ext.refl rfl rfl rfl ?_; apply Exists.intro; refine ⟨?_, ?_⟩; · (go_simp; rfl)) | (refine wpY_move rfl rfl (runsX rfl) Ext.refl rfl rfl rfl (fun _ _ _ h _ => h) ?_) | (refine wpY_val rfl rfl (runsX rfl) Ext.refl rfl ?_; apply Exists.intro; refine ⟨?_, ?_⟩; · (intro a w' hR; (try (intro h1; try have e1 : _ = _ := h1)); (try (intro h2; try have e2 : _ = _ := h2)); (try (intro h3; try have e3 : _ = _ := h3)); go_simp; rfl)) | (refine wpY_skip rfl rfl (by first | exact .inl rfl | exact .inr rfl) ?_))
        refine wpY_val rfl rfl (runsX rfl) Ext.refl rfl ?_; apply Exists.intro; refine ⟨?_, ?_⟩
        · intro a w' hR h1
          have e1 : _ = _ := h1
          have hl1 := hR.cell c1
          have hl2 := hR.cell c2
          go_simp
          rfl
        repeat (first | (refine wpY_move0 rfl rfl (runsX rfl) Ext.refl rfl rfl rfl ?_; apply Exists.intro; refine ⟨?_, ?_⟩; · (go_simp; rfl)) | (refine wpY_move rfl rfl (runsX rfl) Ext.refl rfl rfl rfl (fun _ _ _ h _ => h) ?_) | (refine wpY_val rfl rfl (runsX rfl) Ext.refl rfl ?_; apply Exists.intro; refine ⟨?_, ?_⟩; · (intro a w' hR; (try (intro h1; try have e1 : _ = _ := h1)); (try (intro h2; try have e2 : _ = _ := h2)); (try (intro h3; try have e3 : _ = _ := h3)); go_simp; rfl)) | (refine wpY_skip rfl rfl (by first | exact .inl rfl | exact .inr rfl) ?_))
        refine wpY_val rfl rfl (runsX rfl) Ext.refl rfl ?_; apply Exists.intro; refine ⟨?_, ?_⟩
        · intro a w' hR h1
          have e1 : _ = _ := h1
          have hl1 := hR.cell c3
          have hl2 := hR.cell c4
          go_simp
          rfl
        refine wpY_val rfl rfl (runsX rfl) Ext.refl rfl ?_; apply Exists.intro; refine ⟨?_, ?_⟩
        · intro a w' hR h1 h2
          have e1 : _ = _ := h1
          have e2 : _ = _ := h2
          go_simp
          rfl
        refine wpY_done ?_
        intro w5 hx5 hS5
        iterate 9 (rintro _ rfl)
        dsimp only [FinV]
        go_simp
        have HX5 := hid hx5
        clear hx5
        go_wp2
        exact ⟨⟨k + 1, by omega, by go_num, HN.out, HX.out.trans HX5.out⟩, by simp [intOf]; omega⟩
      · have HN := hid (HSN.out hxy)
        have hd := pairB_f hxy
        clear hxy HST HSN
        go_wp2
        refine wp_regionY [] [] Ext Ext (fun _ => True) (by kernel_rfl) (by rfl) (by rfl) (by kernel_rfl) (by kernel_rfl) (by kernel_rfl) (fun _ _ _ x y => x.trans y) Ext.refl (fun _ _ x => x) (Ext.refl _).drew (fun _ _ x _ => x) trivial ?_
        repeat (first | (refine wpY_move0 rfl rfl (runsX rfl) Ext.refl rfl rfl rfl ?_; apply Exists.intro; refine ⟨?_, ?_⟩; · (go_simp; rfl)) | (refine wpY_move rfl rfl (runsX rfl) Ext.refl rfl rfl rfl (fun _ _ _ h _ => h) ?_) | (refine wpY_val rfl rfl (runsX rfl) Ext.refl rfl ?_; apply Exists.intro; refine ⟨?_, ?_⟩; · (intro a w' hR; (try (intro h1; try have e1 : _ = _ := h1)); (try (intro h2; try have e2 : _ = _ := h2)); (try (intro h3; try have e3 : _ = _ := h3)); go_simp; rfl)) | (refine wpY_skip rfl rfl (by first | exact .inl rfl | exact .inr rfl) ?_))
        refine wpY_val rfl rfl (runsX rfl) Ext.refl rfl ?_; apply Exists.intro; refine ⟨?_, ?_⟩
        · intro a w' hR h1
          have e1 : _ = _ := h1
          have hl1 := hR.cell c1
          have hl2 := hR.cell c2
          go_simp
          rfl
        repeat (first | (refine wpY_move0 rfl rfl (runsX rfl) Ext.refl rfl rfl rfl ?_; apply Exists.intro; refine ⟨?_, ?_⟩; · (go_simp; rfl)) | (refine wpY_move rfl rfl (runsX rfl) Ext.refl rfl rfl rfl (fun _ _ _ h _ => h) ?_) | (refine wpY_val rfl rfl (runsX rfl) Ext.refl rfl ?_; apply Exists.intro; refine ⟨?_, ?_⟩; · (intro a w' hR; (try (intro h1; try have e1 : _ = _ := h1)); (try (intro h2; try have e2 : _ = _ := h2)); (try (intro h3; try have e3 : _ = _ := h3)); go_simp; rfl)) | (refine wpY_skip rfl rfl (by first | exact .inl rfl | exact .inr rfl) ?_))
        refine wpY_val rfl rfl (runsX rfl) Ext.refl rfl ?_; apply Exists.intro; refine ⟨?_, ?_⟩
        · intro a w' hR h1
          have e1 : _ = _ := h1
          have hl1 := hR.cell c3
          have hl2 := hR.cell c4
          go_simp
          rfl
        refine wpY_val rfl rfl (runsX rfl) Ext.refl rfl ?_; apply Exists.intro; refine ⟨?_, ?_⟩
        · intro a w' hR h1 h2
          have e1 : _ = _ := h1
          have e2 : _ = _ := h2
          go_simp
          rfl
        refine wpY_done ?_
        intro w5 hx5 hS5
        iterate 9 (rintro _ rfl)
        dsimp only [FinV]
        go_simp
        have HX5 := hid hx5
        clear hx5
        go_wp2
        go_ret
        rw [HN.out]
        exact ⟨rfl, HX.out.trans HX5.out⟩
    · obtain rfl : k = l.length := by omega
      have hq : decide (l = r) = true := by
       have h1 := HT.out
       have h2 := HL.out
       rw [List.take_length, h2, List.take_length] at h1
       simpa using h1
      have HQ := hid hq
      clear hq
      go_wp2
      go_ret
      rw [HQ.out]
      exact ⟨rfl, HX.out⟩
 · refine (equalM_len A B _ _ c d w hl).mono ?_
   rintro e w' ⟨rfl, rfl⟩
   have : decide (l = r) = false := by simp; intro h; exact hl (by rw [h])
   rw [this]
   exact ⟨rfl, Ext.refl _⟩
set_option maxHeartbeats 2000000 in
theorem same_any (v u : Value) (l r : List Rec.R) (w : World) (hv : RP w v l) (hu : RP w u r) (hl : l.length ≤ 1000000) (hr : r.length ≤ 1000000) :
 Calls Tryz.prog 27 #[v, u] w fun e w' => e = .returned (.bool (decide (Rec.srt l = Rec.srt r))) ∧ Ext w w' := by
 have HV := hid hv
 have HU := hid hu
 have HSL := hid (fun w hv => sorted_any v l w hv hl)
 have HSR := hid (fun w hu => sorted_any u r w hu hr)
 clear hv hu hl hr
 go_enter Tryz.func27, Tryz.ntmps27
 go_wp2_with fail
 refine (HSL.out _ HV.out).mono ?_
 rintro e1 w1 ⟨v1, rfl, ho1, he1⟩
 go_wp2_with fail
 refine (HSR.out _ (HU.out.ext he1)).mono ?_
 rintro e2 w2 ⟨v2, rfl, ho2, he2⟩
 go_wp2_with fail
 refine (equalM_any _ _ _ _ _ (ho1.ext he2).rp ho2.rp).mono ?_
 rintro e3 w3 ⟨rfl, he3⟩
 go_wp2
 go_ret
 exact ⟨rfl, (he1.trans he2).trans he3⟩
end Go.Proofs.YtpmpjjhchkoboaaGreatDoor
namespace Go.Proofs.YtpmpjjhchkoboaaGreatDoor
open Go.RowKit Go.Ox Go.Shelf
attribute [local irreducible] OP RP
theorem rasc_down {l : List Rec.R} {j : Nat} (h : j + 1 < l.length) (ha : Rec.Asc (l.drop (j + 1))) (hc : ¬ Mom.lt l[j + 1] l[j]) : Rec.Asc (l.drop j) := by
 rw [List.drop_eq_getElem_cons (by omega)]
 refine List.pairwise_cons.2 ⟨?_, ha⟩
 intro y hy
 rw [List.drop_eq_getElem_cons h] at ha hy
 rcases List.mem_cons.1 hy with q | q
 · rw [q]; exact hc
 · exact Rec.not_lt_trans hc ((List.pairwise_cons.1 ha).1 y q)
theorem rasc_last (l : List Rec.R) : Rec.Asc (l.drop (l.length - 1)) := rasc_short (by rw [List.length_drop]; omega)
set_option maxHeartbeats 4000000 in
theorem isSorted_any (v : Value) (l : List Rec.R) (w : World) (hv : RP w v l) (hl : l.length ≤ 1000000) :
 Calls Tryz.prog 164 #[v, .func (.func 121) #[] #[]] w fun e w' => ∃ b, e = .returned (.bool b) ∧ (b = true ↔ Rec.Asc l) ∧ Ext w w' := by
 obtain ⟨A, c, rfl⟩ := hv.form
 have HV := hid hv
 have HL := hid hl
 have hw0 : IntKind.i64.wrap ((l.length : Int) - 1) = (l.length : Int) - 1 := IntWalk.i64_in _ (by omega)
 clear hv
 go_enter Tryz.func164, Tryz.ntmps164
 go_wp2
 clear hw0
 go_loopw [5] (fun iv wr => ∃ z : Int, iv = .int .i64 z ∧ ((∃ n : Nat, z = n ∧ n < l.length ∧ Rec.Asc (l.drop n)) ∨ (z ≤ 0 ∧ Rec.Asc l)) ∧ Ext w wr) (fun iv _ => (intOf iv).toNat)
 case atStart =>
  refine ⟨_, rfl, ?_, Ext.refl _⟩
  by_cases h0 : l.length = 0
  · exact .inr ⟨by omega, rasc_short (by omega)⟩
  · exact .inl ⟨l.length - 1, by omega, by omega, rasc_last l⟩
 case round =>
  obtain ⟨z, rfl, hz, hext⟩ := hrel
  have HE := hid hext
  by_cases hp : 0 < z
  · obtain ⟨n, hn, hlt, hasc⟩ : ∃ n : Nat, z = n ∧ n < l.length ∧ Rec.Asc (l.drop n) := by
     rcases hz with q | q
     · exact q
     · omega
    clear hz
    obtain ⟨j, hj⟩ : ∃ j, n = j + 1 := ⟨n - 1, by omega⟩
    subst hn
    have HNJ := hid hj
    have HA := hid hasc
    clear hasc
    have g0 : 0 ≤ (j : Int) := by omega
    have g1 : (j : Int) < (l.length : Int) := by omega
    have g2 : (n : Int) < (l.length : Int) := by omega
    have g3 : 0 ≤ (n : Int) := by omega
    obtain ⟨bA, oA, rfl, c0, c1⟩ := (HV.out.ext hext).at_ (k := j) (by omega)
    obtain ⟨bB, oB, hq2, d0, d1⟩ := (HV.out.ext hext).at_ (k := j + 1) (by omega)
    cases hq2
    have hj1 : j + 1 < l.length := by omega
    have HS := hid (fun hc => rasc_down (j := j) hj1 (by rw [← hj]; exact HA.out) hc)
    have HN := hid (fun hc => rasc_not (l := l) (j := j) hj1 hc)
    have HCM := hid (fun w => compare_any l[j + 1] l[j] w)
    have HQ := hid (show Mom.cmp l[j + 1] l[j] < 0 ↔ Mom.lt l[j + 1] l[j] from Mom.cmp_lt)
    have hwr : IntKind.i64.wrap ((n : Int) - 1) = (j : Int) := by rw [IntWalk.i64_in _ (by omega)]; omega
    generalize l[j] = x at *
    generalize l[j + 1] = y at *
    obtain ⟨x1, x2⟩ := x
    obtain ⟨y1, y2⟩ := y
    dsimp only at *
    rw [← hj] at d0 d1
    generalize Mom.cmp (y1, y2) (x1, x2) = z at *
    have HJ1 := hid hj1
    clear hext hj hj1
    by_cases hz : z < 0
    · have HNO := hid (HN.out (HQ.out.1 hz))
      clear HS HN HQ
      go_wp2
      refine wp_region_ext (by kernel_rfl) (by rfl) (by rfl) (by kernel_rfl) ?_
      repeat (first | ((first | (refine wpM_move00 Ext.refl rfl rfl rfl ?_) | (refine wpM_move01 Ext.refl rfl rfl rfl rfl ?_)); apply Exists.intro; refine ⟨?_, ?_⟩; · (go_simp; rfl)) | (first | (refine wpM_movek0 Ext.refl rfl rfl rfl ?_) | (refine wpM_movek1 Ext.refl rfl rfl rfl rfl ?_)) | ((first | (refine wpM_val0 Ext.refl rfl ?_) | (refine wpM_val1 Ext.refl rfl rfl ?_)); apply Exists.intro; refine ⟨?_, ?_⟩; · (intro a w' hR; (try (intro h1; try have e1 : _ = _ := h1)); (try (intro h2; try have e2 : _ = _ := h2)); (try (intro h3; try have e3 : _ = _ := h3)); go_simp; rfl)) | (refine wpM_skip1 rfl ?_) | (refine wpM_skipU rfl ?_))
      (first | (refine wpM_val0 Ext.refl rfl ?_) | (refine wpM_val1 Ext.refl rfl rfl ?_)); apply Exists.intro; refine ⟨?_, ?_⟩
      · intro a w' hR h1
        have e1 : _ = _ := h1
        have hl0 := hR.cell d0
        have hl1 := hR.cell d1
        go_simp
        rfl
      repeat (first | ((first | (refine wpM_move00 Ext.refl rfl rfl rfl ?_) | (refine wpM_move01 Ext.refl rfl rfl rfl rfl ?_)); apply Exists.intro; refine ⟨?_, ?_⟩; · (go_simp; rfl)) | (first | (refine wpM_movek0 Ext.refl rfl rfl rfl ?_) | (refine wpM_movek1 Ext.refl rfl rfl rfl rfl ?_)) | ((first | (refine wpM_val0 Ext.refl rfl ?_) | (refine wpM_val1 Ext.refl rfl rfl ?_)); apply Exists.intro; refine ⟨?_, ?_⟩; · (intro a w' hR; (try (intro h1; try have e1 : _ = _ := h1)); (try (intro h2; try have e2 : _ = _ := h2)); (try (intro h3; try have e3 : _ = _ := h3)); go_simp; rfl)) | (refine wpM_skip1 rfl ?_) | (refine wpM_skipU rfl ?_))
      (first | (refine wpM_val0 Ext.refl rfl ?_) | (refine wpM_val1 Ext.refl rfl rfl ?_)); apply Exists.intro; refine ⟨?_, ?_⟩
      · intro a w' hR h1
        have e1 : _ = _ := h1
        have hl0 := hR.cell c0
        have hl1 := hR.cell c1
        go_simp
        rfl
      first | (refine wpM_call0 (fun v _ => v = .int .i64 z) rfl (by exact mono_eq) ?_ ?_) | (refine wpM_call1 (fun v _ => v = .int .i64 z) rfl rfl (by exact mono_eq) ?_ ?_)
      · intro a w' hR h1 h2 h3 K hK
        have e1 : _ = _ := h1
        have e2 : _ = _ := h2
        have e3 : _ = _ := h3
        go_simp
        refine (HCM.out w').mono ?_
        rintro e w2 ⟨rfl, he⟩
        exact hK _ _ he rfl
      repeat (first | ((first | (refine wpM_move00 Ext.refl rfl rfl rfl ?_) | (refine wpM_move01 Ext.refl rfl rfl rfl rfl ?_)); apply Exists.intro; refine ⟨?_, ?_⟩; · (go_simp; rfl)) | (first | (refine wpM_movek0 Ext.refl rfl rfl rfl ?_) | (refine wpM_movek1 Ext.refl rfl rfl rfl rfl ?_)) | ((first | (refine wpM_val0 Ext.refl rfl ?_) | (refine wpM_val1 Ext.refl rfl rfl ?_)); apply Exists.intro; refine ⟨?_, ?_⟩; · (intro a w' hR; (try (intro h1; try have e1 : _ = _ := h1)); (try (intro h2; try have e2 : _ = _ := h2)); (try (intro h3; try have e3 : _ = _ := h3)); go_simp; rfl)) | (refine wpM_skip1 rfl ?_) | (refine wpM_skipU rfl ?_))
      refine wpM_done ?_
      intro w5 hx5
      iterate 6 (rintro _ rfl)
      dsimp only [FinV]
      go_simp
      have HX5 := hid (HE.out.trans hx5)
      clear hx5
      go_wp2
      go_ret
      exact ⟨_, rfl, ⟨fun h => by simp at h, fun h => absurd h HNO.out⟩, HX5.out⟩
    · have HYS := hid (HS.out fun h => hz (HQ.out.2 h))
      clear HS HN HQ
      go_wp2
      refine wp_region_ext (by kernel_rfl) (by rfl) (by rfl) (by kernel_rfl) ?_
      repeat (first | ((first | (refine wpM_move00 Ext.refl rfl rfl rfl ?_) | (refine wpM_move01 Ext.refl rfl rfl rfl rfl ?_)); apply Exists.intro; refine ⟨?_, ?_⟩; · (go_simp; rfl)) | (first | (refine wpM_movek0 Ext.refl rfl rfl rfl ?_) | (refine wpM_movek1 Ext.refl rfl rfl rfl rfl ?_)) | ((first | (refine wpM_val0 Ext.refl rfl ?_) | (refine wpM_val1 Ext.refl rfl rfl ?_)); apply Exists.intro; refine ⟨?_, ?_⟩; · (intro a w' hR; (try (intro h1; try have e1 : _ = _ := h1)); (try (intro h2; try have e2 : _ = _ := h2)); (try (intro h3; try have e3 : _ = _ := h3)); go_simp; rfl)) | (refine wpM_skip1 rfl ?_) | (refine wpM_skipU rfl ?_))
      (first | (refine wpM_val0 Ext.refl rfl ?_) | (refine wpM_val1 Ext.refl rfl rfl ?_)); apply Exists.intro; refine ⟨?_, ?_⟩
      · intro a w' hR h1
        have e1 : _ = _ := h1
        have hl0 := hR.cell d0
        have hl1 := hR.cell d1
        go_simp
        rfl
      repeat (first | ((first | (refine wpM_move00 Ext.refl rfl rfl rfl ?_) | (refine wpM_move01 Ext.refl rfl rfl rfl rfl ?_)); apply Exists.intro; refine ⟨?_, ?_⟩; · (go_simp; rfl)) | (first | (refine wpM_movek0 Ext.refl rfl rfl rfl ?_) | (refine wpM_movek1 Ext.refl rfl rfl rfl rfl ?_)) | ((first | (refine wpM_val0 Ext.refl rfl ?_) | (refine wpM_val1 Ext.refl rfl rfl ?_)); apply Exists.intro; refine ⟨?_, ?_⟩; · (intro a w' hR; (try (intro h1; try have e1 : _ = _ := h1)); (try (intro h2; try have e2 : _ = _ := h2)); (try (intro h3; try have e3 : _ = _ := h3)); go_simp; rfl)) | (refine wpM_skip1 rfl ?_) | (refine wpM_skipU rfl ?_))
      (first | (refine wpM_val0 Ext.refl rfl ?_) | (refine wpM_val1 Ext.refl rfl rfl ?_)); apply Exists.intro; refine ⟨?_, ?_⟩
      · intro a w' hR h1
        have e1 : _ = _ := h1
        have hl0 := hR.cell c0
        have hl1 := hR.cell c1
        go_simp
        rfl
      first | (refine wpM_call0 (fun v _ => v = .int .i64 z) rfl (by exact mono_eq) ?_ ?_) | (refine wpM_call1 (fun v _ => v = .int .i64 z) rfl rfl (by exact mono_eq) ?_ ?_)
      · intro a w' hR h1 h2 h3 K hK
        have e1 : _ = _ := h1
        have e2 : _ = _ := h2
        have e3 : _ = _ := h3
        go_simp
        refine (HCM.out w').mono ?_
        rintro e w2 ⟨rfl, he⟩
        exact hK _ _ he rfl
      repeat (first | ((first | (refine wpM_move00 Ext.refl rfl rfl rfl ?_) | (refine wpM_move01 Ext.refl rfl rfl rfl rfl ?_)); apply Exists.intro; refine ⟨?_, ?_⟩; · (go_simp; rfl)) | (first | (refine wpM_movek0 Ext.refl rfl rfl rfl ?_) | (refine wpM_movek1 Ext.refl rfl rfl rfl rfl ?_)) | ((first | (refine wpM_val0 Ext.refl rfl ?_) | (refine wpM_val1 Ext.refl rfl rfl ?_)); apply Exists.intro; refine ⟨?_, ?_⟩; · (intro a w' hR; (try (intro h1; try have e1 : _ = _ := h1)); (try (intro h2; try have e2 : _ = _ := h2)); (try (intro h3; try have e3 : _ = _ := h3)); go_simp; rfl)) | (refine wpM_skip1 rfl ?_) | (refine wpM_skipU rfl ?_))
      refine wpM_done ?_
      intro w5 hx5
      iterate 6 (rintro _ rfl)
      dsimp only [FinV]
      go_simp
      have HX5 := hid (HE.out.trans hx5)
      clear hx5
      go_wp2
      have hn := HNJ.out
      exact ⟨⟨_, rfl, .inl ⟨j, rfl, by omega, HYS.out⟩, HX5.out⟩, by simp [intOf]; omega⟩
  · have HY := hid (show Rec.Asc l by
     rcases hz with ⟨n, hn, hlt, hasc⟩ | q
     · obtain rfl : n = 0 := by omega
       simpa using hasc
     · exact q.2)
    clear hext hz
    go_wp2
    go_ret
    exact .inr ⟨rfl, HY.out, HE.out⟩
set_option maxHeartbeats 2000000 in
theorem recSorted_any (v : Value) (l : List Rec.R) (w : World) (hv : RP w v l) (hl : l.length ≤ 1000000) :
 Calls Tryz.prog 150 #[v] w fun e w' => ∃ b, e = .returned (.bool b) ∧ (b = true ↔ Rec.Asc l) ∧ Ext w w' := by
 have HC := hid (isSorted_any v l w hv hl)
 clear hv hl
 go_enter Tryz.func150, Tryz.ntmps150
 go_wp2_with fail
 refine HC.out.mono ?_
 rintro e1 w1 ⟨b, rfl, hb, he1⟩
 go_wp2
 go_ret
 exact ⟨b, rfl, hb, he1⟩
end Go.Proofs.YtpmpjjhchkoboaaGreatDoor
namespace Go.Proofs.YtpmpjjhchkoboaaGreatDoor
open Go.RowKit Go.Ox Go.Shelf
attribute [local irreducible] OP RP
end Go.Proofs.YtpmpjjhchkoboaaGreatDoor
