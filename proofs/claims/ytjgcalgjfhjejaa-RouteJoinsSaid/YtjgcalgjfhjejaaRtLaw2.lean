/-
  The walks of RouteJoins and RouteKeys.
-/
import Derived.Test.YtjgcalgjfhjejaaRtLaw
namespace Go.Proofs.Ytjgcalgjfhjejaa
open Go.RowKit Go.Ox Go.Shelf
open Go.Ox.Rec (when0 when0_ok when0_no)
attribute [local irreducible] OP RP
set_option linter.unusedVariables false
set_option linter.unusedSimpArgs false

set_option maxRecDepth 100000 in
set_option maxHeartbeats 400000 in
theorem routeJoins_long (A : Option Addr) (m c : Nat) (n : Int) (w : World) (h : 5000 < m) :
    Calls Try.prog 3 #[.slice A m c, .int .i64 n] w fun e w' => e = .returned (.bool true) ∧ Ext w w' := by
  have g : (5000 : Int) < (m : Int) := by omega
  clear h
  go_enter Try.func3, Try.ntmps3
  go_wp2_with fail
  refine (lives_any _).mono ?_
  rintro e w1 ⟨rfl, he1⟩
  go_wp2
  go_ret
  exact ⟨rfl, he1⟩

set_option maxRecDepth 100000 in
set_option maxHeartbeats 4000000 in
theorem routeJoins_any (v : Value) (l : List Rec.R) (n : Int) (w : World) (hv : RP w v l) (hl : l.length ≤ 5000) :
    Calls Try.prog 3 #[v, .int .i64 n] w fun e w' => e = .returned (.bool true) ∧ Ext w w' := by
  have HV := Lib.hid hv
  have HSP := Lib.hid (fun w h => split_all v l n w h (by omega))
  have HRS := Lib.hid (fun w h => rsort_any l v w h (by omega))
  obtain ⟨A, c, rfl⟩ := hv.form
  have g : ¬ (5000 : Int) < (l.length : Int) := by omega
  have HOK := Lib.hid (fun h => @Rt.splE_ok l n h)
  clear hv hl
  generalize hse : Rt.splE l n = se at *
  clear hse
  go_enter Try.func3, Try.ntmps3
  go_wp2_with fail
  refine (HSP.out _ HV.out).mono ?_
  rintro e w1 ⟨p, rfl, hp1, he1⟩
  have HP1 := Lib.hid hp1
  have HV1 := Lib.hid (HV.out.ext he1)
  have HX1 := Lib.hid he1
  clear hp1 he1
  go_wp2_with fail
  refine (lives_any _).mono ?_
  rintro e w2 ⟨rfl, he2⟩
  have HP2 := Lib.hid (HP1.out.extE he2)
  have HV2 := Lib.hid (HV1.out.ext he2)
  have HX2 := Lib.hid (HX1.out.trans he2)
  clear he2 HP1 HV1 HX1
  by_cases hz : se = 0
  · obtain ⟨n1, n2, hm⟩ := HOK.out hz
    obtain ⟨N, hN⟩ : ∃ N : Nat, n = N := ⟨n.toNat, by omega⟩
    subst hN
    rw [hz, when0_ok rfl, Int.toNat_natCast] at HP2
    obtain ⟨q1, q2, q3, q4⟩ := Rt.join_spl hm (n := N) (by omega)
    have hpl := Rt.spl_len (Rec.srt l) N
    have HJO := Lib.hid (fun v w (h : RRS w v (Rt.spl (Rec.srt l) N)) => join_any v _ w h (fun x hx => Nat.le_trans (q3 x hx) (by omega)) (by rw [q4]; omega))
    rw [q1, when0_ok rfl, q2] at HJO
    have HRI := Lib.hid (fun (k : Nat) (hk : k < (Rt.spl (Rec.srt l) N).length) v w (h : RP w v (Rt.spl (Rec.srt l) N)[k]) => right_is v _ (k : Int) (N : Int) w h (Nat.le_trans (q3 _ (List.getElem_mem hk)) (by omega)) (fun x hx => (Rt.spl_mem hx).2))
    have HNB := Lib.hid (show (Rt.spl (Rec.srt l) N).length ≤ 8 by rw [hpl]; omega)
    obtain ⟨AP, cP, rfl⟩ := HP2.out.form
    subst hz
    clear q1 q2 q3 q4 hpl hm n1 n2 HOK
    generalize Rt.spl (Rec.srt l) N = P at *
    go_wp2
    go_loopw [7] (fun iv wr => ∃ k : Nat, k ≤ P.length ∧ iv = .int .i64 (k : Int) ∧ Ext w2 wr) (fun iv _ => P.length - (intOf iv).toNat)
    case atStart => exact ⟨0, Nat.zero_le _, rfl, Ext.refl _⟩
    case round =>
      obtain ⟨k, hk, rfl, hext⟩ := hrel
      have HE := Lib.hid hext
      have HP := Lib.hid (HP2.out.extE hext)
      have HVr := Lib.hid (HV2.out.ext hext)
      by_cases hlt : k < P.length
      · have g1 : (k : Int) < (P.length : Int) := by omega
        have g0 : 0 ≤ (k : Int) := by omega
        have hkb : k ≤ 1000000 := by have := HNB.out; omega
        have HLT := Lib.hid hlt
        obtain ⟨bP, oP, u, rfl, d0, hu⟩ := HP.out.at_ hlt
        obtain ⟨Au, cu, hAu⟩ := hu.form
        have HR2 := Lib.hid (HRI.out k hlt _ wr hu)
        generalize P[k] = row at *
        subst hAu
        clear hext hk hlt hu
        go_wp2_with fail
        refine HR2.out.mono ?_
        rintro e w3 ⟨rfl, he3⟩
        go_wp2
        exact ⟨⟨k + 1, HLT.out, by go_num, HE.out.trans he3⟩, by have := HLT.out; simp [intOf]; omega⟩
      · have hk2 : k = P.length := by omega
        subst hk2
        have g1 : ¬ (P.length : Int) < (P.length : Int) := by omega
        clear hext
        go_wp2_with fail
        refine (HJO.out _ _ HP.out).mono ?_
        rintro e w3 ⟨j, rfl, hj3, he3⟩
        have HJ3 := Lib.hid hj3
        have HV3 := Lib.hid (HVr.out.ext he3)
        have HX3 := Lib.hid ((HX2.out.trans HE.out).trans he3)
        clear hj3 he3
        go_wp2_with fail
        refine (HRS.out _ HV3.out).mono ?_
        rintro e w4 ⟨t, rfl, ht4, he4⟩
        have HT4 := Lib.hid ht4.rp
        have HJ4 := Lib.hid (HJ3.out.ext he4)
        have HX4 := Lib.hid (HX3.out.trans he4)
        clear ht4 he4
        go_wp2_with fail
        refine (live_exact _ _ _ _ true _ (by simp) HJ4.out HT4.out).mono ?_
        rintro e w5 ⟨rfl, he5⟩
        go_wp2
        go_ret
        exact ⟨rfl, HX4.out.trans he5⟩
  · have hn : (se != 0) = true := by simpa using hz
    clear hz HOK
    go_wp2_with fail
    refine (lives_any _).mono ?_
    rintro e w3 ⟨rfl, he3⟩
    go_wp2
    go_ret
    exact ⟨rfl, HX2.out.trans he3⟩
theorem routeJoins_row (w : World) (v : Value) (l : List Rec.R) (hv : RP w v l) (n : Int) (hn : -9223372036854775808 ≤ n ∧ n ≤ 9223372036854775807) :
    Calls Try.prog 3 #[v, .int .i64 n] w fun e w' => e = .returned (.bool true) ∧ Ext w w' := by
  by_cases h : 5000 < l.length
  · obtain ⟨A, c, rfl⟩ := hv.form
    exact routeJoins_long A _ c n w h
  · exact routeJoins_any v l n w hv (by omega)

set_option maxRecDepth 100000 in
set_option maxHeartbeats 400000 in
theorem routeKeys_long (A : Option Addr) (m c : Nat) (n : Int) (w : World) (h : 3000 < m) :
    Calls Try.prog 5 #[.slice A m c, .int .i64 n] w fun e w' => e = .returned (.bool true) ∧ Ext w w' := by
  have g : (3000 : Int) < (m : Int) := by omega
  clear h
  go_enter Try.func5, Try.ntmps5
  go_wp2_with fail
  refine (lives_any _).mono ?_
  rintro e w1 ⟨rfl, he1⟩
  go_wp2
  go_ret
  exact ⟨rfl, he1⟩
theorem cnt_row {l : List Rec.R} {N k : Nat} (hk : k < (Rt.spl (Rec.srt l) N).length) {r : Rec.R} (hr : r ∈ (Rt.spl (Rec.srt l) N)[k]) : cntR ((Rt.spl (Rec.srt l) N)[k]) r = cntR l r := by
  have h := Rt.spl_count hr
  have hp := (Rec.srt_perm l).count_eq r
  have e : ∀ (x : List Rec.R), cntR x r = x.count r := fun x => by
    unfold cntR List.count
    refine List.countP_congr fun y _ => ?_
    simp
  rw [e, e, h, hp]

set_option maxRecDepth 100000 in
set_option maxHeartbeats 8000000 in
theorem routeKeys_any (v : Value) (l : List Rec.R) (n : Int) (w : World) (hv : RP w v l) (hl : l.length ≤ 3000) :
    Calls Try.prog 5 #[v, .int .i64 n] w fun e w' => e = .returned (.bool true) ∧ Ext w w' := by
  have HV := Lib.hid hv
  have HSP := Lib.hid (fun w h => split_all v l n w h (by omega))
  have HC2 := Lib.hid (fun r w h => rcount_any v l r w h (by omega))
  obtain ⟨A, c, rfl⟩ := hv.form
  have g : ¬ (3000 : Int) < (l.length : Int) := by omega
  have HOK := Lib.hid (fun h => @Rt.splE_ok l n h)
  clear hv
  generalize hse : Rt.splE l n = se at *
  clear hse
  go_enter Try.func5, Try.ntmps5
  go_wp2_with fail
  refine (HSP.out _ HV.out).mono ?_
  rintro e w1 ⟨p, rfl, hp1, he1⟩
  have HP1 := Lib.hid hp1
  have HV1 := Lib.hid (HV.out.ext he1)
  have HX1 := Lib.hid he1
  clear hp1 he1
  go_wp2_with fail
  refine (lives_any _).mono ?_
  rintro e w2 ⟨rfl, he2⟩
  have HP2 := Lib.hid (HP1.out.extE he2)
  have HV2 := Lib.hid (HV1.out.ext he2)
  have HX2 := Lib.hid (HX1.out.trans he2)
  clear he2 HP1 HV1 HX1
  by_cases hz : se = 0
  · obtain ⟨n1, n2, hm⟩ := HOK.out hz
    obtain ⟨N, hN⟩ : ∃ N : Nat, n = N := ⟨n.toNat, by omega⟩
    subst hN
    rw [hz, when0_ok rfl, Int.toNat_natCast] at HP2
    obtain ⟨q1, q2, q3, q4⟩ := Rt.join_spl hm (n := N) (by omega)
    have hpl := Rt.spl_len (Rec.srt l) N
    have HSH := Lib.hid (fun (k : Nat) (hk : k < (Rt.spl (Rec.srt l) N).length) (x : Rec.R) (hx : x ∈ (Rt.spl (Rec.srt l) N)[k]) => (Rt.spl_mem hx).2)
    have HCN := Lib.hid (fun (k : Nat) (hk : k < (Rt.spl (Rec.srt l) N).length) (x : Rec.R) (hx : x ∈ (Rt.spl (Rec.srt l) N)[k]) => cnt_row hk hx)
    have HNB := Lib.hid (show (Rt.spl (Rec.srt l) N).length ≤ 8 by rw [hpl]; omega)
    have HRL := Lib.hid (fun (k : Nat) (hk : k < (Rt.spl (Rec.srt l) N).length) => q3 _ (List.getElem_mem hk))
    have HFL := Lib.hid q4
    have HLL := Lib.hid hl
    obtain ⟨AP, cP, rfl⟩ := HP2.out.form
    subst hz
    clear q1 q2 q3 q4 hpl hm n1 n2 HOK hl
    generalize Rt.spl (Rec.srt l) N = P at *
    go_wp2
    go_loopw [7, 8] (fun sv iv wr => ∃ k : Nat, k ≤ P.length ∧ iv = .int .i64 (k : Int) ∧ sv = .int .i64 ((P.take k).flatten.length : Int) ∧ Ext w2 wr) (fun _ iv _ => P.length - (intOf iv).toNat)
    case atStart => exact ⟨0, Nat.zero_le _, rfl, rfl, Ext.refl _⟩
    case round =>
      obtain ⟨k, hk, rfl, rfl, hext⟩ := hrel
      rename World => wA
      have HE := Lib.hid hext
      have HP := Lib.hid (HP2.out.extE hext)
      have HVr := Lib.hid (HV2.out.ext hext)
      have hfl := flat_leV P k
      have HSB := Lib.hid (show (P.take k).flatten.length ≤ 3000 by have := HFL.out; have := HLL.out; omega)
      clear hfl
      by_cases hlt : k < P.length
      · have g1 : (k : Int) < (P.length : Int) := by omega
        have g1n : k < P.length := hlt
        have g0 : 0 ≤ (k : Int) := by omega
        have hkb : k ≤ 1000000 := by have := HNB.out; omega
        have HLT := Lib.hid hlt
        have HFS := Lib.hid (show (P.take (k + 1)).flatten.length = (P.take k).flatten.length + P[k].length by have h9 := congrArg List.length (flat_snocV P hlt); rw [List.length_append] at h9; exact h9)
        obtain ⟨bP, oP, u, rfl, d0, hu⟩ := HP.out.at_ hlt
        obtain ⟨Au, cu, hAu⟩ := hu.form
        have HU := Lib.hid hu
        have HS2 := Lib.hid (HSH.out k hlt)
        have HC3 := Lib.hid (HCN.out k hlt)
        have HRB := Lib.hid (HRL.out k hlt)
        generalize P[k] = row at *
        subst hAu
        have hrb : row.length ≤ 4096 := HRB.out
        have hsb : (P.take k).flatten.length ≤ 3000 := HSB.out
        have HC1 := Lib.hid (fun r w h => rcount_any (.slice Au row.length cu) row r w h (by have := HRB.out; omega))
        generalize hsm : (P.take k).flatten.length = sm at *
        have HSM := Lib.hid hsm
        clear hext hk hlt hu hsm
        go_wp2
        go_loopw [9] (fun kv wr => ∃ i : Nat, i ≤ row.length ∧ kv = .int .i64 (i : Int) ∧ Ext wA wr) (fun kv _ => row.length - (intOf kv).toNat)
        case atStart => exact ⟨0, Nat.zero_le _, rfl, Ext.refl _⟩
        case round =>
          obtain ⟨i, hi, rfl, hext⟩ := hrel
          have HEi := Lib.hid hext
          have d0 := hext.cell d0
          by_cases hil : i < row.length
          · have f1 : (i : Int) < (row.length : Int) := by omega
            have f1n : i < row.length := hil
            have f0 : 0 ≤ (i : Int) := by omega
            have hib : i ≤ 1000000 := by omega
            have HIL := Lib.hid hil
            obtain ⟨bR, oR, rfl, xa, xb⟩ := (HU.out.ext hext).at_ (k := i) hil
            have HUi := Lib.hid (HU.out.ext hext)
            have HVi := Lib.hid (HVr.out.ext hext)
            have HSX := Lib.hid (HS2.out row[i] (List.getElem_mem hil))
            have HCX := Lib.hid (HC3.out row[i] (List.getElem_mem hil))
            have HK1 := Lib.hid (fun w h => HC1.out row[i] w h)
            have HK2 := Lib.hid (fun w h => HC2.out row[i] w h)
            rw [HCX.out] at HK1
            have HSHC := Lib.hid (fun w => shard_any row[i].1 (N : Int) w)
            rw [HSX.out] at HSHC
            clear HSX HCX
            generalize row[i] = x at *
            generalize (cntR l x : Int) = cn at *
            have hcc : (cn != cn) = false := by simp
            have hkk : ((k : Int) != (k : Int)) = false := by simp
            obtain ⟨x1, x2⟩ := x
            dsimp only at *
            clear hext hi hil
            go_wp2
            refine wp_region_ext (by kernel_rfl) (by rfl) (by rfl) (by kernel_rfl) ?_
            repeat (first | ((first | (refine wpM_move00 Ext.refl rfl rfl rfl ?_) | (refine wpM_move01 Ext.refl rfl rfl rfl rfl ?_)); apply Exists.intro; refine ⟨?_, ?_⟩; · (go_simp; rfl)) | (first | (refine wpM_movek0 Ext.refl rfl rfl rfl ?_) | (refine wpM_movek1 Ext.refl rfl rfl rfl rfl ?_)) | ((first | (refine wpM_val0 Ext.refl rfl ?_) | (refine wpM_val1 Ext.refl rfl rfl ?_)); apply Exists.intro; refine ⟨?_, ?_⟩; · (intro a w' hR; intro h1; (first | (have e1 : _ = _ := h1) | skip); intro h2; (first | (have e2 : _ = _ := h2) | skip); go_simp; rfl)) | ((first | (refine wpM_val0 Ext.refl rfl ?_) | (refine wpM_val1 Ext.refl rfl rfl ?_)); apply Exists.intro; refine ⟨?_, ?_⟩; · (intro a w' hR; intro h1; (first | (have e1 : _ = _ := h1) | skip); go_simp; rfl)) | ((first | (refine wpM_val0 Ext.refl rfl ?_) | (refine wpM_val1 Ext.refl rfl rfl ?_)); apply Exists.intro; refine ⟨?_, ?_⟩; · (intro a w' hR; go_simp; rfl)) | ((first | (refine wpM_val0 Ext.refl rfl ?_) | (refine wpM_val1 Ext.refl rfl rfl ?_)); apply Exists.intro; refine ⟨?_, ?_⟩; · (intro a w' hR; intro h1; (first | (have e1 : _ = _ := h1) | skip); intro h2; (first | (have e2 : _ = _ := h2) | skip); intro h3; (first | (have e3 : _ = _ := h3) | skip); go_simp; rfl)) | (refine wpM_skip1 rfl ?_) | (refine wpM_skipU rfl ?_))
            (first | (refine wpM_val0 Ext.refl rfl ?_) | (refine wpM_val1 Ext.refl rfl rfl ?_)); apply Exists.intro; refine ⟨?_, ?_⟩
            · intro a w' hR h1
              have e1 : _ = _ := h1
              have hl0 := hR.cell d0
              go_simp
              rfl
            repeat (first | ((first | (refine wpM_move00 Ext.refl rfl rfl rfl ?_) | (refine wpM_move01 Ext.refl rfl rfl rfl rfl ?_)); apply Exists.intro; refine ⟨?_, ?_⟩; · (go_simp; rfl)) | (first | (refine wpM_movek0 Ext.refl rfl rfl rfl ?_) | (refine wpM_movek1 Ext.refl rfl rfl rfl rfl ?_)) | ((first | (refine wpM_val0 Ext.refl rfl ?_) | (refine wpM_val1 Ext.refl rfl rfl ?_)); apply Exists.intro; refine ⟨?_, ?_⟩; · (intro a w' hR; intro h1; (first | (have e1 : _ = _ := h1) | skip); intro h2; (first | (have e2 : _ = _ := h2) | skip); go_simp; rfl)) | ((first | (refine wpM_val0 Ext.refl rfl ?_) | (refine wpM_val1 Ext.refl rfl rfl ?_)); apply Exists.intro; refine ⟨?_, ?_⟩; · (intro a w' hR; intro h1; (first | (have e1 : _ = _ := h1) | skip); go_simp; rfl)) | ((first | (refine wpM_val0 Ext.refl rfl ?_) | (refine wpM_val1 Ext.refl rfl rfl ?_)); apply Exists.intro; refine ⟨?_, ?_⟩; · (intro a w' hR; go_simp; rfl)) | ((first | (refine wpM_val0 Ext.refl rfl ?_) | (refine wpM_val1 Ext.refl rfl rfl ?_)); apply Exists.intro; refine ⟨?_, ?_⟩; · (intro a w' hR; intro h1; (first | (have e1 : _ = _ := h1) | skip); intro h2; (first | (have e2 : _ = _ := h2) | skip); intro h3; (first | (have e3 : _ = _ := h3) | skip); go_simp; rfl)) | (refine wpM_skip1 rfl ?_) | (refine wpM_skipU rfl ?_))
            (first | (refine wpM_val0 Ext.refl rfl ?_) | (refine wpM_val1 Ext.refl rfl rfl ?_)); apply Exists.intro; refine ⟨?_, ?_⟩
            · intro a w' hR h1
              have e1 : _ = _ := h1
              have hl0 := hR.cell xa
              go_simp
              rfl
            repeat (first | ((first | (refine wpM_move00 Ext.refl rfl rfl rfl ?_) | (refine wpM_move01 Ext.refl rfl rfl rfl rfl ?_)); apply Exists.intro; refine ⟨?_, ?_⟩; · (go_simp; rfl)) | (first | (refine wpM_movek0 Ext.refl rfl rfl rfl ?_) | (refine wpM_movek1 Ext.refl rfl rfl rfl rfl ?_)) | ((first | (refine wpM_val0 Ext.refl rfl ?_) | (refine wpM_val1 Ext.refl rfl rfl ?_)); apply Exists.intro; refine ⟨?_, ?_⟩; · (intro a w' hR; intro h1; (first | (have e1 : _ = _ := h1) | skip); intro h2; (first | (have e2 : _ = _ := h2) | skip); go_simp; rfl)) | ((first | (refine wpM_val0 Ext.refl rfl ?_) | (refine wpM_val1 Ext.refl rfl rfl ?_)); apply Exists.intro; refine ⟨?_, ?_⟩; · (intro a w' hR; intro h1; (first | (have e1 : _ = _ := h1) | skip); go_simp; rfl)) | ((first | (refine wpM_val0 Ext.refl rfl ?_) | (refine wpM_val1 Ext.refl rfl rfl ?_)); apply Exists.intro; refine ⟨?_, ?_⟩; · (intro a w' hR; go_simp; rfl)) | ((first | (refine wpM_val0 Ext.refl rfl ?_) | (refine wpM_val1 Ext.refl rfl rfl ?_)); apply Exists.intro; refine ⟨?_, ?_⟩; · (intro a w' hR; intro h1; (first | (have e1 : _ = _ := h1) | skip); intro h2; (first | (have e2 : _ = _ := h2) | skip); intro h3; (first | (have e3 : _ = _ := h3) | skip); go_simp; rfl)) | (refine wpM_skip1 rfl ?_) | (refine wpM_skipU rfl ?_))
            first | (refine wpM_call0 (fun v _ => v = .int .i64 (k : Int)) rfl (by first | exact mono_eq | exact (fun _ _ _ ⟨n, h1, h2, h3⟩ k => ⟨n, h1, h2, h3.ext k⟩) | exact (fun _ _ _ h k => RB.ext h k) | exact (fun _ _ _ h k => OB.ext h k) | exact (fun _ _ _ h k => Rd.ext h k) | exact (fun _ _ _ h k => ownsRow_ext h k) | exact (fun _ _ _ h k => RB.extC h k) | exact (fun _ _ _ h k => FB.extC h k) | exact (fun _ _ _ h k => Rd.extC h k) | exact (fun _ _ _ h k => RP.ext h k) | exact (fun _ _ _ h k => RE.ext h k)) ?_ ?_) | (refine wpM_call1 (fun v _ => v = .int .i64 (k : Int)) rfl rfl (by first | exact mono_eq | exact (fun _ _ _ ⟨n, h1, h2, h3⟩ k => ⟨n, h1, h2, h3.ext k⟩) | exact (fun _ _ _ h k => RB.ext h k) | exact (fun _ _ _ h k => OB.ext h k) | exact (fun _ _ _ h k => Rd.ext h k) | exact (fun _ _ _ h k => ownsRow_ext h k) | exact (fun _ _ _ h k => RB.extC h k) | exact (fun _ _ _ h k => FB.extC h k) | exact (fun _ _ _ h k => Rd.extC h k) | exact (fun _ _ _ h k => RP.ext h k) | exact (fun _ _ _ h k => RE.ext h k)) ?_ ?_)
            · intro a w' hR h1 h2 K hK
              have e1 : _ = _ := h1
              have e2 : _ = _ := h2
              go_simp
              refine (HSHC.out w').mono ?_
              rintro e w2 ⟨rfl, rfl⟩
              exact hK _ _ (Ext.refl _) rfl
            repeat (first | ((first | (refine wpM_move00 Ext.refl rfl rfl rfl ?_) | (refine wpM_move01 Ext.refl rfl rfl rfl rfl ?_)); apply Exists.intro; refine ⟨?_, ?_⟩; · (go_simp; rfl)) | (first | (refine wpM_movek0 Ext.refl rfl rfl rfl ?_) | (refine wpM_movek1 Ext.refl rfl rfl rfl rfl ?_)) | ((first | (refine wpM_val0 Ext.refl rfl ?_) | (refine wpM_val1 Ext.refl rfl rfl ?_)); apply Exists.intro; refine ⟨?_, ?_⟩; · (intro a w' hR; intro h1; (first | (have e1 : _ = _ := h1) | skip); intro h2; (first | (have e2 : _ = _ := h2) | skip); go_simp; rfl)) | ((first | (refine wpM_val0 Ext.refl rfl ?_) | (refine wpM_val1 Ext.refl rfl rfl ?_)); apply Exists.intro; refine ⟨?_, ?_⟩; · (intro a w' hR; intro h1; (first | (have e1 : _ = _ := h1) | skip); go_simp; rfl)) | ((first | (refine wpM_val0 Ext.refl rfl ?_) | (refine wpM_val1 Ext.refl rfl rfl ?_)); apply Exists.intro; refine ⟨?_, ?_⟩; · (intro a w' hR; go_simp; rfl)) | ((first | (refine wpM_val0 Ext.refl rfl ?_) | (refine wpM_val1 Ext.refl rfl rfl ?_)); apply Exists.intro; refine ⟨?_, ?_⟩; · (intro a w' hR; intro h1; (first | (have e1 : _ = _ := h1) | skip); intro h2; (first | (have e2 : _ = _ := h2) | skip); intro h3; (first | (have e3 : _ = _ := h3) | skip); go_simp; rfl)) | (refine wpM_skip1 rfl ?_) | (refine wpM_skipU rfl ?_))
            (first | (refine wpM_val0 Ext.refl rfl ?_) | (refine wpM_val1 Ext.refl rfl rfl ?_)); apply Exists.intro; refine ⟨?_, ?_⟩
            · intro a w' hR h1
              have e1 : _ = _ := h1
              have hl0 := hR.cell d0
              go_simp
              rfl
            repeat (first | ((first | (refine wpM_move00 Ext.refl rfl rfl rfl ?_) | (refine wpM_move01 Ext.refl rfl rfl rfl rfl ?_)); apply Exists.intro; refine ⟨?_, ?_⟩; · (go_simp; rfl)) | (first | (refine wpM_movek0 Ext.refl rfl rfl rfl ?_) | (refine wpM_movek1 Ext.refl rfl rfl rfl rfl ?_)) | ((first | (refine wpM_val0 Ext.refl rfl ?_) | (refine wpM_val1 Ext.refl rfl rfl ?_)); apply Exists.intro; refine ⟨?_, ?_⟩; · (intro a w' hR; intro h1; (first | (have e1 : _ = _ := h1) | skip); intro h2; (first | (have e2 : _ = _ := h2) | skip); go_simp; rfl)) | ((first | (refine wpM_val0 Ext.refl rfl ?_) | (refine wpM_val1 Ext.refl rfl rfl ?_)); apply Exists.intro; refine ⟨?_, ?_⟩; · (intro a w' hR; intro h1; (first | (have e1 : _ = _ := h1) | skip); go_simp; rfl)) | ((first | (refine wpM_val0 Ext.refl rfl ?_) | (refine wpM_val1 Ext.refl rfl rfl ?_)); apply Exists.intro; refine ⟨?_, ?_⟩; · (intro a w' hR; go_simp; rfl)) | ((first | (refine wpM_val0 Ext.refl rfl ?_) | (refine wpM_val1 Ext.refl rfl rfl ?_)); apply Exists.intro; refine ⟨?_, ?_⟩; · (intro a w' hR; intro h1; (first | (have e1 : _ = _ := h1) | skip); intro h2; (first | (have e2 : _ = _ := h2) | skip); intro h3; (first | (have e3 : _ = _ := h3) | skip); go_simp; rfl)) | (refine wpM_skip1 rfl ?_) | (refine wpM_skipU rfl ?_))
            (first | (refine wpM_val0 Ext.refl rfl ?_) | (refine wpM_val1 Ext.refl rfl rfl ?_)); apply Exists.intro; refine ⟨?_, ?_⟩
            · intro a w' hR h1
              have e1 : _ = _ := h1
              have hl0 := hR.cell d0
              go_simp
              rfl
            repeat (first | ((first | (refine wpM_move00 Ext.refl rfl rfl rfl ?_) | (refine wpM_move01 Ext.refl rfl rfl rfl rfl ?_)); apply Exists.intro; refine ⟨?_, ?_⟩; · (go_simp; rfl)) | (first | (refine wpM_movek0 Ext.refl rfl rfl rfl ?_) | (refine wpM_movek1 Ext.refl rfl rfl rfl rfl ?_)) | ((first | (refine wpM_val0 Ext.refl rfl ?_) | (refine wpM_val1 Ext.refl rfl rfl ?_)); apply Exists.intro; refine ⟨?_, ?_⟩; · (intro a w' hR; intro h1; (first | (have e1 : _ = _ := h1) | skip); intro h2; (first | (have e2 : _ = _ := h2) | skip); go_simp; rfl)) | ((first | (refine wpM_val0 Ext.refl rfl ?_) | (refine wpM_val1 Ext.refl rfl rfl ?_)); apply Exists.intro; refine ⟨?_, ?_⟩; · (intro a w' hR; intro h1; (first | (have e1 : _ = _ := h1) | skip); go_simp; rfl)) | ((first | (refine wpM_val0 Ext.refl rfl ?_) | (refine wpM_val1 Ext.refl rfl rfl ?_)); apply Exists.intro; refine ⟨?_, ?_⟩; · (intro a w' hR; go_simp; rfl)) | ((first | (refine wpM_val0 Ext.refl rfl ?_) | (refine wpM_val1 Ext.refl rfl rfl ?_)); apply Exists.intro; refine ⟨?_, ?_⟩; · (intro a w' hR; intro h1; (first | (have e1 : _ = _ := h1) | skip); intro h2; (first | (have e2 : _ = _ := h2) | skip); intro h3; (first | (have e3 : _ = _ := h3) | skip); go_simp; rfl)) | (refine wpM_skip1 rfl ?_) | (refine wpM_skipU rfl ?_))
            (first | (refine wpM_val0 Ext.refl rfl ?_) | (refine wpM_val1 Ext.refl rfl rfl ?_)); apply Exists.intro; refine ⟨?_, ?_⟩
            · intro a w' hR h1
              have e1 : _ = _ := h1
              have hl0 := hR.cell xa
              have hl1 := hR.cell xb
              go_simp
              rfl
            first | (refine wpM_call0 (fun v _ => v = .int .i64 cn) rfl (by first | exact mono_eq | exact (fun _ _ _ ⟨n, h1, h2, h3⟩ k => ⟨n, h1, h2, h3.ext k⟩) | exact (fun _ _ _ h k => RB.ext h k) | exact (fun _ _ _ h k => OB.ext h k) | exact (fun _ _ _ h k => Rd.ext h k) | exact (fun _ _ _ h k => ownsRow_ext h k) | exact (fun _ _ _ h k => RB.extC h k) | exact (fun _ _ _ h k => FB.extC h k) | exact (fun _ _ _ h k => Rd.extC h k) | exact (fun _ _ _ h k => RP.ext h k) | exact (fun _ _ _ h k => RE.ext h k)) ?_ ?_) | (refine wpM_call1 (fun v _ => v = .int .i64 cn) rfl rfl (by first | exact mono_eq | exact (fun _ _ _ ⟨n, h1, h2, h3⟩ k => ⟨n, h1, h2, h3.ext k⟩) | exact (fun _ _ _ h k => RB.ext h k) | exact (fun _ _ _ h k => OB.ext h k) | exact (fun _ _ _ h k => Rd.ext h k) | exact (fun _ _ _ h k => ownsRow_ext h k) | exact (fun _ _ _ h k => RB.extC h k) | exact (fun _ _ _ h k => FB.extC h k) | exact (fun _ _ _ h k => Rd.extC h k) | exact (fun _ _ _ h k => RP.ext h k) | exact (fun _ _ _ h k => RE.ext h k)) ?_ ?_)
            · intro a w' hR h1 h2 K hK
              have e1 : _ = _ := h1
              have e2 : _ = _ := h2
              go_simp
              refine (HK1.out w' (HUi.out.ext hR)).mono ?_
              rintro e w2 ⟨rfl, he⟩
              exact hK _ _ he rfl
            repeat (first | ((first | (refine wpM_move00 Ext.refl rfl rfl rfl ?_) | (refine wpM_move01 Ext.refl rfl rfl rfl rfl ?_)); apply Exists.intro; refine ⟨?_, ?_⟩; · (go_simp; rfl)) | (first | (refine wpM_movek0 Ext.refl rfl rfl rfl ?_) | (refine wpM_movek1 Ext.refl rfl rfl rfl rfl ?_)) | ((first | (refine wpM_val0 Ext.refl rfl ?_) | (refine wpM_val1 Ext.refl rfl rfl ?_)); apply Exists.intro; refine ⟨?_, ?_⟩; · (intro a w' hR; intro h1; (first | (have e1 : _ = _ := h1) | skip); intro h2; (first | (have e2 : _ = _ := h2) | skip); go_simp; rfl)) | ((first | (refine wpM_val0 Ext.refl rfl ?_) | (refine wpM_val1 Ext.refl rfl rfl ?_)); apply Exists.intro; refine ⟨?_, ?_⟩; · (intro a w' hR; intro h1; (first | (have e1 : _ = _ := h1) | skip); go_simp; rfl)) | ((first | (refine wpM_val0 Ext.refl rfl ?_) | (refine wpM_val1 Ext.refl rfl rfl ?_)); apply Exists.intro; refine ⟨?_, ?_⟩; · (intro a w' hR; go_simp; rfl)) | ((first | (refine wpM_val0 Ext.refl rfl ?_) | (refine wpM_val1 Ext.refl rfl rfl ?_)); apply Exists.intro; refine ⟨?_, ?_⟩; · (intro a w' hR; intro h1; (first | (have e1 : _ = _ := h1) | skip); intro h2; (first | (have e2 : _ = _ := h2) | skip); intro h3; (first | (have e3 : _ = _ := h3) | skip); go_simp; rfl)) | (refine wpM_skip1 rfl ?_) | (refine wpM_skipU rfl ?_))
            (first | (refine wpM_val0 Ext.refl rfl ?_) | (refine wpM_val1 Ext.refl rfl rfl ?_)); apply Exists.intro; refine ⟨?_, ?_⟩
            · intro a w' hR h1
              have e1 : _ = _ := h1
              have hl0 := hR.cell d0
              go_simp
              rfl
            repeat (first | ((first | (refine wpM_move00 Ext.refl rfl rfl rfl ?_) | (refine wpM_move01 Ext.refl rfl rfl rfl rfl ?_)); apply Exists.intro; refine ⟨?_, ?_⟩; · (go_simp; rfl)) | (first | (refine wpM_movek0 Ext.refl rfl rfl rfl ?_) | (refine wpM_movek1 Ext.refl rfl rfl rfl rfl ?_)) | ((first | (refine wpM_val0 Ext.refl rfl ?_) | (refine wpM_val1 Ext.refl rfl rfl ?_)); apply Exists.intro; refine ⟨?_, ?_⟩; · (intro a w' hR; intro h1; (first | (have e1 : _ = _ := h1) | skip); intro h2; (first | (have e2 : _ = _ := h2) | skip); go_simp; rfl)) | ((first | (refine wpM_val0 Ext.refl rfl ?_) | (refine wpM_val1 Ext.refl rfl rfl ?_)); apply Exists.intro; refine ⟨?_, ?_⟩; · (intro a w' hR; intro h1; (first | (have e1 : _ = _ := h1) | skip); go_simp; rfl)) | ((first | (refine wpM_val0 Ext.refl rfl ?_) | (refine wpM_val1 Ext.refl rfl rfl ?_)); apply Exists.intro; refine ⟨?_, ?_⟩; · (intro a w' hR; go_simp; rfl)) | ((first | (refine wpM_val0 Ext.refl rfl ?_) | (refine wpM_val1 Ext.refl rfl rfl ?_)); apply Exists.intro; refine ⟨?_, ?_⟩; · (intro a w' hR; intro h1; (first | (have e1 : _ = _ := h1) | skip); intro h2; (first | (have e2 : _ = _ := h2) | skip); intro h3; (first | (have e3 : _ = _ := h3) | skip); go_simp; rfl)) | (refine wpM_skip1 rfl ?_) | (refine wpM_skipU rfl ?_))
            (first | (refine wpM_val0 Ext.refl rfl ?_) | (refine wpM_val1 Ext.refl rfl rfl ?_)); apply Exists.intro; refine ⟨?_, ?_⟩
            · intro a w' hR h1
              have e1 : _ = _ := h1
              have hl0 := hR.cell xa
              have hl1 := hR.cell xb
              go_simp
              rfl
            first | (refine wpM_call0 (fun v _ => v = .int .i64 cn) rfl (by first | exact mono_eq | exact (fun _ _ _ ⟨n, h1, h2, h3⟩ k => ⟨n, h1, h2, h3.ext k⟩) | exact (fun _ _ _ h k => RB.ext h k) | exact (fun _ _ _ h k => OB.ext h k) | exact (fun _ _ _ h k => Rd.ext h k) | exact (fun _ _ _ h k => ownsRow_ext h k) | exact (fun _ _ _ h k => RB.extC h k) | exact (fun _ _ _ h k => FB.extC h k) | exact (fun _ _ _ h k => Rd.extC h k) | exact (fun _ _ _ h k => RP.ext h k) | exact (fun _ _ _ h k => RE.ext h k)) ?_ ?_) | (refine wpM_call1 (fun v _ => v = .int .i64 cn) rfl rfl (by first | exact mono_eq | exact (fun _ _ _ ⟨n, h1, h2, h3⟩ k => ⟨n, h1, h2, h3.ext k⟩) | exact (fun _ _ _ h k => RB.ext h k) | exact (fun _ _ _ h k => OB.ext h k) | exact (fun _ _ _ h k => Rd.ext h k) | exact (fun _ _ _ h k => ownsRow_ext h k) | exact (fun _ _ _ h k => RB.extC h k) | exact (fun _ _ _ h k => FB.extC h k) | exact (fun _ _ _ h k => Rd.extC h k) | exact (fun _ _ _ h k => RP.ext h k) | exact (fun _ _ _ h k => RE.ext h k)) ?_ ?_)
            · intro a w' hR h1 h2 K hK
              have e1 : _ = _ := h1
              have e2 : _ = _ := h2
              go_simp
              refine (HK2.out w' (HVi.out.ext hR)).mono ?_
              rintro e w2 ⟨rfl, he⟩
              exact hK _ _ he rfl
            repeat (first | ((first | (refine wpM_move00 Ext.refl rfl rfl rfl ?_) | (refine wpM_move01 Ext.refl rfl rfl rfl rfl ?_)); apply Exists.intro; refine ⟨?_, ?_⟩; · (go_simp; rfl)) | (first | (refine wpM_movek0 Ext.refl rfl rfl rfl ?_) | (refine wpM_movek1 Ext.refl rfl rfl rfl rfl ?_)) | ((first | (refine wpM_val0 Ext.refl rfl ?_) | (refine wpM_val1 Ext.refl rfl rfl ?_)); apply Exists.intro; refine ⟨?_, ?_⟩; · (intro a w' hR; intro h1; (first | (have e1 : _ = _ := h1) | skip); intro h2; (first | (have e2 : _ = _ := h2) | skip); go_simp; rfl)) | ((first | (refine wpM_val0 Ext.refl rfl ?_) | (refine wpM_val1 Ext.refl rfl rfl ?_)); apply Exists.intro; refine ⟨?_, ?_⟩; · (intro a w' hR; intro h1; (first | (have e1 : _ = _ := h1) | skip); go_simp; rfl)) | ((first | (refine wpM_val0 Ext.refl rfl ?_) | (refine wpM_val1 Ext.refl rfl rfl ?_)); apply Exists.intro; refine ⟨?_, ?_⟩; · (intro a w' hR; go_simp; rfl)) | ((first | (refine wpM_val0 Ext.refl rfl ?_) | (refine wpM_val1 Ext.refl rfl rfl ?_)); apply Exists.intro; refine ⟨?_, ?_⟩; · (intro a w' hR; intro h1; (first | (have e1 : _ = _ := h1) | skip); intro h2; (first | (have e2 : _ = _ := h2) | skip); intro h3; (first | (have e3 : _ = _ := h3) | skip); go_simp; rfl)) | (refine wpM_skip1 rfl ?_) | (refine wpM_skipU rfl ?_))
            refine wpM_done ?_
            intro w5 hx5
            iterate 36 (rintro _ rfl)
            dsimp only [FinV]
            go_simp
            have HX5 := Lib.hid (HEi.out.trans hx5)
            clear hx5
            go_wp2
            exact ⟨⟨i + 1, HIL.out, by go_num, HX5.out⟩, by have := HIL.out; simp [intOf]; omega⟩
          · have hi2 : i = row.length := by omega
            subst hi2
            have f1 : ¬ (row.length : Int) < (row.length : Int) := by omega
            clear hext
            by_cases h60 : 60 < row.length
            · have f6 : (60 : Int) < (row.length : Int) := by omega
              clear h60
              go_wp2
              go_ret
              exact ⟨rfl, (HX2.out.trans HE.out).trans HEi.out⟩
            · have f6 : ¬ (60 : Int) < (row.length : Int) := by omega
              clear h60
              go_wp2
              exact ⟨⟨k + 1, HLT.out, by go_num, by rw [HFS.out]; go_num, HE.out.trans HEi.out⟩, by have := HLT.out; simp [intOf]; omega⟩
      · have hk2 : k = P.length := by omega
        subst hk2
        have g1 : ¬ (P.length : Int) < (P.length : Int) := by omega
        rw [List.take_length] at *
        have hq : ((P.flatten.length : Int) == (l.length : Int)) = true := by rw [HFL.out]; simp
        have HQ := Lib.hid HFL.out
        generalize P.flatten.length = fl at *
        clear hext
        go_wp2
        go_ret
        exact ⟨rfl, HX2.out.trans HE.out⟩
  · have hn : (se != 0) = true := by simpa using hz
    clear hz HOK
    go_wp2_with fail
    refine (lives_any _).mono ?_
    rintro e w3 ⟨rfl, he3⟩
    go_wp2
    go_ret
    exact ⟨rfl, HX2.out.trans he3⟩
theorem routeKeys_row (w : World) (v : Value) (l : List Rec.R) (hv : RP w v l) (n : Int) (hn : -9223372036854775808 ≤ n ∧ n ≤ 9223372036854775807) :
    Calls Try.prog 5 #[v, .int .i64 n] w fun e w' => e = .returned (.bool true) ∧ Ext w w' := by
  by_cases h : 3000 < l.length
  · obtain ⟨A, c, rfl⟩ := hv.form
    exact routeKeys_long A _ c n w h
  · exact routeKeys_any v l n w hv (by omega)
end Go.Proofs.Ytjgcalgjfhjejaa
