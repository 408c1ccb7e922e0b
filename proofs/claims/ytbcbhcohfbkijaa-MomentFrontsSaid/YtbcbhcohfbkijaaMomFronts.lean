/-
  The statements of layer 4: MomentFronts.
-/
import Derived.Test.YtbcbhcohfbkijaaMomKeeps
import Derived.Test.YtbcbhcohfbkijaaMomFR2
import Derived.Test.YtbcbhcohfbkijaaMem2
namespace Go.Proofs.Ytbcbhcohfbkijaa
open Go.RowKit Go.Ox Go.Shelf
attribute [local irreducible] OP RP OB RB
set_option linter.unusedSimpArgs false
set_option linter.unusedVariables false

theorem all_take_s {α : Type} (l : List α) (p : α → Bool) (k : Nat) (h : k < l.length) : (l.take (k + 1)).all p = ((l.take k).all p && p l[k]) := by
  rw [List.take_succ_eq_append_getElem h, List.all_append]; simp
theorem all_hit {α : Type} {l : List α} {p : α → Bool} {k : Nat} (h : k < l.length) (hp : p l[k] = false) (ha : (l.any fun x => !p x) = false) : False := by
  rw [List.any_eq_false] at ha
  have := ha l[k] (List.getElem_mem h)
  simp [hp] at this
theorem all_end {α : Type} {l : List α} {p : α → Bool} (h : l.all p = true) (ha : (l.any fun x => !p x) = true) : False := by
  rw [List.any_eq_true] at ha
  obtain ⟨x, hx, hq⟩ := ha
  have := List.all_eq_true.1 h x hx
  simp [this] at hq
set_option maxRecDepth 100000 in
set_option maxHeartbeats 1000000 in
theorem fronts_long (v u : Value) (l g : List Mom.M) (m : Mom.M) (w : World) (hv : RP w v l) (hu : RP w u g) (hl : 300 < l.length ∨ (l.length ≤ 300 ∧ 100 < g.length)) :
    Calls Try.prog 5 #[v, mV m, u] w fun e w' => e = .returned (.bool true) ∧ Ext w w' := by
  obtain ⟨A, c, rfl⟩ := hv.form
  obtain ⟨B, d, rfl⟩ := hu.form
  obtain ⟨m1, m2⟩ := m
  have HX := Lib.hid ((Ext.refl w).alloc (.cells #[.int .i64 m1, .int .i64 m2] 23))
  rcases hl with hl | ⟨h1, h2⟩
  · have g : (300 : Int) < (l.length : Int) := by omega
    clear hv hu hl
    go_enter Try.func5, Try.ntmps5
    go_wp2_with fail
    refine (lives_any _).mono ?_
    rintro e w1 ⟨rfl, he1⟩
    go_wp2_with fail
    go_ret
    exact ⟨rfl, HX.out.trans he1⟩
  · have g2 : (100 : Int) < (g.length : Int) := by omega
    have g1 : ¬ (300 : Int) < (l.length : Int) := by omega
    clear hv hu h1 h2
    go_enter Try.func5, Try.ntmps5
    go_wp2_with fail
    refine (lives_any _).mono ?_
    rintro e w1 ⟨rfl, he1⟩
    go_wp2_with fail
    go_ret
    exact ⟨rfl, HX.out.trans he1⟩
set_option maxRecDepth 100000 in
set_option maxHeartbeats 8000000 in
theorem fronts_bad (v u : Value) (l g : List Mom.M) (m : Mom.M) (w : World) (hv : RP w v l) (hu : RP w u g) (hl : l.length ≤ 300) (hg : g.length ≤ 100) (hb : (l.any fun x => !Mom.ok x) = true)
    (hF : ∀ w, RP w v l → Calls Try.prog 20 #[v] w fun e w' => ∃ vf, e = .returned (.tuple #[vf, .int .i64 40]) ∧ RP w' vf [] ∧ Ext w w') :
    Calls Try.prog 5 #[v, mV m, u] w fun e w' => e = .returned (.bool true) ∧ Ext w w' := by
  obtain ⟨m1, m2⟩ := m
  have HX0 := Lib.hid ((Ext.refl w).alloc (.cells #[.int .i64 m1, .int .i64 m2] 23))
  have HB0 := Lib.hid (Blk.new w 23 #[.int .i64 m1, .int .i64 m2])
  have HF := Lib.hid (hF _ (hv.ext HX0.out))
  have HV := Lib.hid (hv.ext HX0.out)
  have HU := Lib.hid (hu.ext HX0.out)
  have g1 : ¬ (300 : Int) < (l.length : Int) := by omega
  have g2 : ¬ (100 : Int) < (g.length : Int) := by omega
  have HC := Lib.hid (fun w1 (he : Ext (w.alloc (.cells #[.int .i64 m1, .int .i64 m2] 23)) w1) => covers_any v l (m1, m2) w1 (HV.out.ext he) (by omega))
  have HR := Lib.hid (fun w1 (he : Ext (w.alloc (.cells #[.int .i64 m1, .int .i64 m2] 23)) w1) => rcovers_any v l (m1, m2) w1 (HV.out.ext he) (by omega))
  have HRx := Lib.hid (fun x w1 (he : Ext (w.alloc (.cells #[.int .i64 m1, .int .i64 m2] 23)) w1) => rcovers_any v l x w1 (HV.out.ext he) (by omega))
  have HBy := Lib.hid (fun w1 (he : Ext (w.alloc (.cells #[.int .i64 m1, .int .i64 m2] 23)) w1) => beyond_any u v g l w1 (HU.out.ext he) (HV.out.ext he) (by omega) (by omega))
  have HRF := Lib.hid (fun w1 (he : Ext (w.alloc (.cells #[.int .i64 m1, .int .i64 m2] 23)) w1) => rfront_any v l w1 (HV.out.ext he) (by omega))
  have HLB := Lib.hid hb
  have hlen := rfront_len l
  obtain ⟨A, c, rfl⟩ := hv.form
  obtain ⟨B, d, rfl⟩ := hu.form
  clear hv hu hF hb
  generalize Mom.covers l (m1, m2) = q at *
  go_enter Try.func5, Try.ntmps5
  go_wp2_with fail
  refine HF.out.mono ?_
  rintro e w1 ⟨vf, rfl, hrf, he1⟩
  have HRF1 := Lib.hid hrf
  have HX1 := Lib.hid he1
  obtain ⟨A1, k1, rfl⟩ := hrf.form
  have c0 := (HB0.out.ext he1).cell 0
  have c1 := (HB0.out.ext he1).cell 1
  clear hrf he1
  go_wp2
  refine wp_region_ext (by kernel_rfl) (by rfl) (by rfl) (by kernel_rfl) ?_
  first | (refine wpM_call0 (fun v _ => v = .bool true) rfl (by first | exact mono_eq | exact (fun _ _ _ ⟨n, h1, h2, h3⟩ k => ⟨n, h1, h2, h3.ext k⟩) | exact (fun _ _ _ h k => RB.ext h k) | exact (fun _ _ _ h k => OB.ext h k) | exact (fun _ _ _ h k => Rd.ext h k) | exact (fun _ _ _ h k => ownsRow_ext h k) | exact (fun _ _ _ h k => RB.extC h k) | exact (fun _ _ _ h k => FB.extC h k) | exact (fun _ _ _ h k => Rd.extC h k)) ?_ ?_) | (refine wpM_call1 (fun v _ => v = .bool true) rfl rfl (by first | exact mono_eq | exact (fun _ _ _ ⟨n, h1, h2, h3⟩ k => ⟨n, h1, h2, h3.ext k⟩) | exact (fun _ _ _ h k => RB.ext h k) | exact (fun _ _ _ h k => OB.ext h k) | exact (fun _ _ _ h k => Rd.ext h k) | exact (fun _ _ _ h k => ownsRow_ext h k) | exact (fun _ _ _ h k => RB.extC h k) | exact (fun _ _ _ h k => FB.extC h k) | exact (fun _ _ _ h k => Rd.extC h k)) ?_ ?_)
  · intro a w' hR  K hK
    go_simp
    refine (lives_any w').mono ?_
    rintro e w2 ⟨rfl, he⟩
    exact hK _ _ he rfl
  repeat (first | ((first | (refine wpM_move00 Ext.refl rfl rfl rfl ?_) | (refine wpM_move01 Ext.refl rfl rfl rfl rfl ?_)); apply Exists.intro; refine ⟨?_, ?_⟩; · (go_simp; rfl)) | (first | (refine wpM_movek0 Ext.refl rfl rfl rfl ?_) | (refine wpM_movek1 Ext.refl rfl rfl rfl rfl ?_)) | ((first | (refine wpM_val0 Ext.refl rfl ?_) | (refine wpM_val1 Ext.refl rfl rfl ?_)); apply Exists.intro; refine ⟨?_, ?_⟩; · (intro a w' hR; intro h1; (first | (have e1 : _ = _ := h1) | skip); intro h2; (first | (have e2 : _ = _ := h2) | skip); go_simp; rfl)) | ((first | (refine wpM_val0 Ext.refl rfl ?_) | (refine wpM_val1 Ext.refl rfl rfl ?_)); apply Exists.intro; refine ⟨?_, ?_⟩; · (intro a w' hR; intro h1; (first | (have e1 : _ = _ := h1) | skip); go_simp; rfl)) | ((first | (refine wpM_val0 Ext.refl rfl ?_) | (refine wpM_val1 Ext.refl rfl rfl ?_)); apply Exists.intro; refine ⟨?_, ?_⟩; · (intro a w' hR; go_simp; rfl)) | ((first | (refine wpM_val0 Ext.refl rfl ?_) | (refine wpM_val1 Ext.refl rfl rfl ?_)); apply Exists.intro; refine ⟨?_, ?_⟩; · (intro a w' hR; intro h1; (first | (have e1 : _ = _ := h1) | skip); intro h2; (first | (have e2 : _ = _ := h2) | skip); intro h3; (first | (have e3 : _ = _ := h3) | skip); go_simp; rfl)) | (refine wpM_skip1 rfl ?_) | (refine wpM_skipU rfl ?_))
  first | (refine wpM_val0 Ext.refl rfl ?_) | (refine wpM_val1 Ext.refl rfl rfl ?_)
  apply Exists.intro; refine ⟨?_, ?_⟩
  · intro a w' hR h1
    have e1 : _ = _ := h1
    have hl0 := hR.cell c0
    have hl1 := hR.cell c1
    go_simp
    rfl
  first | (refine wpM_call0 (fun v _ => v = .bool q) rfl (by first | exact mono_eq | exact (fun _ _ _ ⟨n, h1, h2, h3⟩ k => ⟨n, h1, h2, h3.ext k⟩) | exact (fun _ _ _ h k => RB.ext h k) | exact (fun _ _ _ h k => OB.ext h k) | exact (fun _ _ _ h k => Rd.ext h k) | exact (fun _ _ _ h k => ownsRow_ext h k) | exact (fun _ _ _ h k => RB.extC h k) | exact (fun _ _ _ h k => FB.extC h k) | exact (fun _ _ _ h k => Rd.extC h k)) ?_ ?_) | (refine wpM_call1 (fun v _ => v = .bool q) rfl rfl (by first | exact mono_eq | exact (fun _ _ _ ⟨n, h1, h2, h3⟩ k => ⟨n, h1, h2, h3.ext k⟩) | exact (fun _ _ _ h k => RB.ext h k) | exact (fun _ _ _ h k => OB.ext h k) | exact (fun _ _ _ h k => Rd.ext h k) | exact (fun _ _ _ h k => ownsRow_ext h k) | exact (fun _ _ _ h k => RB.extC h k) | exact (fun _ _ _ h k => FB.extC h k) | exact (fun _ _ _ h k => Rd.extC h k)) ?_ ?_)
  · intro a w' hR h1 h2 K hK
    have e1 : _ = _ := h1
    have e2 : _ = _ := h2
    go_simp
    refine (HC.out w' (HX1.out.trans hR)).mono ?_
    rintro e w2 ⟨rfl, he⟩
    exact hK _ _ he rfl
  repeat (first | ((first | (refine wpM_move00 Ext.refl rfl rfl rfl ?_) | (refine wpM_move01 Ext.refl rfl rfl rfl rfl ?_)); apply Exists.intro; refine ⟨?_, ?_⟩; · (go_simp; rfl)) | (first | (refine wpM_movek0 Ext.refl rfl rfl rfl ?_) | (refine wpM_movek1 Ext.refl rfl rfl rfl rfl ?_)) | ((first | (refine wpM_val0 Ext.refl rfl ?_) | (refine wpM_val1 Ext.refl rfl rfl ?_)); apply Exists.intro; refine ⟨?_, ?_⟩; · (intro a w' hR; intro h1; (first | (have e1 : _ = _ := h1) | skip); intro h2; (first | (have e2 : _ = _ := h2) | skip); go_simp; rfl)) | ((first | (refine wpM_val0 Ext.refl rfl ?_) | (refine wpM_val1 Ext.refl rfl rfl ?_)); apply Exists.intro; refine ⟨?_, ?_⟩; · (intro a w' hR; intro h1; (first | (have e1 : _ = _ := h1) | skip); go_simp; rfl)) | ((first | (refine wpM_val0 Ext.refl rfl ?_) | (refine wpM_val1 Ext.refl rfl rfl ?_)); apply Exists.intro; refine ⟨?_, ?_⟩; · (intro a w' hR; go_simp; rfl)) | ((first | (refine wpM_val0 Ext.refl rfl ?_) | (refine wpM_val1 Ext.refl rfl rfl ?_)); apply Exists.intro; refine ⟨?_, ?_⟩; · (intro a w' hR; intro h1; (first | (have e1 : _ = _ := h1) | skip); intro h2; (first | (have e2 : _ = _ := h2) | skip); intro h3; (first | (have e3 : _ = _ := h3) | skip); go_simp; rfl)) | (refine wpM_skip1 rfl ?_) | (refine wpM_skipU rfl ?_))
  first | (refine wpM_val0 Ext.refl rfl ?_) | (refine wpM_val1 Ext.refl rfl rfl ?_)
  apply Exists.intro; refine ⟨?_, ?_⟩
  · intro a w' hR h1
    have e1 : _ = _ := h1
    have hl0 := hR.cell c0
    have hl1 := hR.cell c1
    go_simp
    rfl
  first | (refine wpM_call0 (fun v _ => v = .bool q) rfl (by first | exact mono_eq | exact (fun _ _ _ ⟨n, h1, h2, h3⟩ k => ⟨n, h1, h2, h3.ext k⟩) | exact (fun _ _ _ h k => RB.ext h k) | exact (fun _ _ _ h k => OB.ext h k) | exact (fun _ _ _ h k => Rd.ext h k) | exact (fun _ _ _ h k => ownsRow_ext h k) | exact (fun _ _ _ h k => RB.extC h k) | exact (fun _ _ _ h k => FB.extC h k) | exact (fun _ _ _ h k => Rd.extC h k)) ?_ ?_) | (refine wpM_call1 (fun v _ => v = .bool q) rfl rfl (by first | exact mono_eq | exact (fun _ _ _ ⟨n, h1, h2, h3⟩ k => ⟨n, h1, h2, h3.ext k⟩) | exact (fun _ _ _ h k => RB.ext h k) | exact (fun _ _ _ h k => OB.ext h k) | exact (fun _ _ _ h k => Rd.ext h k) | exact (fun _ _ _ h k => ownsRow_ext h k) | exact (fun _ _ _ h k => RB.extC h k) | exact (fun _ _ _ h k => FB.extC h k) | exact (fun _ _ _ h k => Rd.extC h k)) ?_ ?_)
  · intro a w' hR h1 h2 K hK
    have e1 : _ = _ := h1
    have e2 : _ = _ := h2
    go_simp
    refine (HR.out w' (HX1.out.trans hR)).mono ?_
    rintro e w2 ⟨rfl, he⟩
    exact hK _ _ he rfl
  repeat (first | ((first | (refine wpM_move00 Ext.refl rfl rfl rfl ?_) | (refine wpM_move01 Ext.refl rfl rfl rfl rfl ?_)); apply Exists.intro; refine ⟨?_, ?_⟩; · (go_simp; rfl)) | (first | (refine wpM_movek0 Ext.refl rfl rfl rfl ?_) | (refine wpM_movek1 Ext.refl rfl rfl rfl rfl ?_)) | ((first | (refine wpM_val0 Ext.refl rfl ?_) | (refine wpM_val1 Ext.refl rfl rfl ?_)); apply Exists.intro; refine ⟨?_, ?_⟩; · (intro a w' hR; intro h1; (first | (have e1 : _ = _ := h1) | skip); intro h2; (first | (have e2 : _ = _ := h2) | skip); go_simp; rfl)) | ((first | (refine wpM_val0 Ext.refl rfl ?_) | (refine wpM_val1 Ext.refl rfl rfl ?_)); apply Exists.intro; refine ⟨?_, ?_⟩; · (intro a w' hR; intro h1; (first | (have e1 : _ = _ := h1) | skip); go_simp; rfl)) | ((first | (refine wpM_val0 Ext.refl rfl ?_) | (refine wpM_val1 Ext.refl rfl rfl ?_)); apply Exists.intro; refine ⟨?_, ?_⟩; · (intro a w' hR; go_simp; rfl)) | ((first | (refine wpM_val0 Ext.refl rfl ?_) | (refine wpM_val1 Ext.refl rfl rfl ?_)); apply Exists.intro; refine ⟨?_, ?_⟩; · (intro a w' hR; intro h1; (first | (have e1 : _ = _ := h1) | skip); intro h2; (first | (have e2 : _ = _ := h2) | skip); intro h3; (first | (have e3 : _ = _ := h3) | skip); go_simp; rfl)) | (refine wpM_skip1 rfl ?_) | (refine wpM_skipU rfl ?_))
  refine wpM_done ?_
  intro w2 hx2
  iterate 11 (rintro _ rfl)
  dsimp only [FinV]
  go_simp
  have HX2 := Lib.hid (HX1.out.trans hx2)
  have HY2 := Lib.hid hx2
  clear hx2 c0 c1
  go_wp2
  go_loopw [9, 10] (fun bv iv wr => ∃ k : Nat, k ≤ g.length ∧ iv = .int .i64 k ∧ bv = .bool ((g.take k).all fun x => Mom.covers l x) ∧ Ext w1 wr) (fun _ iv _ => g.length - (intOf iv).toNat)
  case atStart => exact ⟨0, Nat.zero_le _, rfl, rfl, HY2.out⟩
  case round =>
    obtain ⟨i, hi, rfl, rfl, hext⟩ := hrel
    have HX3 := Lib.hid hext
    clear hext
    by_cases hlt : i < g.length
    · have g3 : (i : Int) < (g.length : Int) := by omega
      have g0 : 0 ≤ (i : Int) := by omega
      obtain ⟨bu, ou, rfl, c2, c3⟩ := HU.out.at_ hlt
      have c2 := (HX1.out.trans HX3.out).cell c2
      have c3 := (HX1.out.trans HX3.out).cell c3
      have HS := Lib.hid (all_take_s g (fun x => Mom.covers l x) i hlt)
      have HRg := Lib.hid (HRx.out g[i])
      generalize g[i] = x at *
      obtain ⟨x1, x2⟩ := x
      dsimp only at *
      generalize Mom.covers l (x1, x2) = qx at *
      cases hbk : (g.take i).all (fun x => Mom.covers l x) with
      | false =>
        have HN := Lib.hid (show (g.take (i + 1)).all (fun x => Mom.covers l x) = false by rw [HS.out, hbk]; rfl)
        clear hbk
        go_wp2
        exact ⟨⟨i + 1, by omega, by go_num, by rw [HN.out], HX3.out⟩, by simp [intOf]; omega⟩
      | true =>
        have HN := Lib.hid (show (g.take (i + 1)).all (fun x => Mom.covers l x) = qx by rw [HS.out, hbk]; simp)
        clear hbk
        go_wp2_with fail
        refine (HRg.out _ (HX1.out.trans HX3.out)).mono ?_
        rintro e w4 ⟨rfl, he4⟩
        go_wp2_with fail
        exact ⟨⟨i + 1, by omega, by go_num, by rw [HN.out], HX3.out.trans he4⟩, by simp [intOf]; omega⟩
    · obtain rfl : i = g.length := by omega
      rw [List.take_length]
      have g3 : ¬ (g.length : Int) < (g.length : Int) := by omega
      generalize hbq : g.all (fun x => Mom.covers l x) = bq at *
      clear hbq
      go_wp2_with fail
      refine (HBy.out _ (HX1.out.trans HX3.out)).mono ?_
      rintro e w4 ⟨rfl, he4⟩
      have HX4 := Lib.hid (HX3.out.trans he4)
      clear he4
      go_wp2_with fail
      go_loopw [11] (fun iv wr => ∃ k : Nat, k ≤ l.length ∧ iv = .int .i64 k ∧ (l.take k).all Mom.ok = true ∧ Ext w1 wr) (fun iv _ => l.length - (intOf iv).toNat)
      case atStart => exact ⟨0, Nat.zero_le _, rfl, rfl, HX4.out⟩
      case round =>
        obtain ⟨k, hk, rfl, hok, hext⟩ := hrel
        have HX5 := Lib.hid hext
        have HOK := Lib.hid hok
        clear hext hok
        by_cases hkl : k < l.length
        · have g4 : (k : Int) < (l.length : Int) := by omega
          have g5 : 0 ≤ (k : Int) := by omega
          obtain ⟨bl, ol, rfl, c2, c3⟩ := HV.out.at_ hkl
          have c2 := (HX1.out.trans HX5.out).cell c2
          have c3 := (HX1.out.trans HX5.out).cell c3
          have HS := Lib.hid (all_take_s l Mom.ok k hkl)
          have HH := Lib.hid (all_hit (p := Mom.ok) hkl)
          generalize l[k] = x at *
          obtain ⟨x1, x2⟩ := x
          dsimp only at *
          have HCK := Lib.hid (fun w => rcheck_any (x1, x2) w)
          cases hq : Mom.ok (x1, x2) with
          | true =>
            rw [hq] at HCK
            have HN := Lib.hid (show (l.take (k + 1)).all Mom.ok = true by rw [HS.out, hq, HOK.out]; rfl)
            clear hq
            go_wp2_with fail
            refine (HCK.out _).mono ?_
            rintro e w6 ⟨rfl, he6⟩
            go_wp2_with fail
            exact ⟨⟨k + 1, by omega, by go_num, HN.out, HX5.out.trans he6⟩, by simp [intOf]; omega⟩
          | false =>
            rw [hq] at HCK
            clear hq
            go_wp2_with fail
            refine (HCK.out _).mono ?_
            rintro e w6 ⟨rfl, he6⟩
            go_wp2_with fail
            go_ret
            exact ⟨rfl, HX0.out.trans (HX1.out.trans (HX5.out.trans he6))⟩
        · obtain rfl : k = l.length := by omega
          exact (all_end (p := Mom.ok) (by have := HOK.out; rwa [List.take_length] at this) HLB.out).elim
set_option maxRecDepth 100000 in
set_option maxHeartbeats 8000000 in
theorem fronts_many (v u : Value) (l g : List Mom.M) (m : Mom.M) (w : World) (hv : RP w v l) (hu : RP w u g) (hl : l.length ≤ 300) (hg : g.length ≤ 100) (hb : (l.any fun x => !Mom.ok x) = false) (hm : 256 < (Mom.rfront l).length)
    (hF : ∀ w, RP w v l → Calls Try.prog 20 #[v] w fun e w' => ∃ vf, e = .returned (.tuple #[vf, .int .i64 31]) ∧ RP w' vf [] ∧ Ext w w') :
    Calls Try.prog 5 #[v, mV m, u] w fun e w' => e = .returned (.bool true) ∧ Ext w w' := by
  obtain ⟨m1, m2⟩ := m
  have HX0 := Lib.hid ((Ext.refl w).alloc (.cells #[.int .i64 m1, .int .i64 m2] 23))
  have HB0 := Lib.hid (Blk.new w 23 #[.int .i64 m1, .int .i64 m2])
  have HF := Lib.hid (hF _ (hv.ext HX0.out))
  have HV := Lib.hid (hv.ext HX0.out)
  have HU := Lib.hid (hu.ext HX0.out)
  have g1 : ¬ (300 : Int) < (l.length : Int) := by omega
  have g2 : ¬ (100 : Int) < (g.length : Int) := by omega
  have HC := Lib.hid (fun w1 (he : Ext (w.alloc (.cells #[.int .i64 m1, .int .i64 m2] 23)) w1) => covers_any v l (m1, m2) w1 (HV.out.ext he) (by omega))
  have HR := Lib.hid (fun w1 (he : Ext (w.alloc (.cells #[.int .i64 m1, .int .i64 m2] 23)) w1) => rcovers_any v l (m1, m2) w1 (HV.out.ext he) (by omega))
  have HRx := Lib.hid (fun x w1 (he : Ext (w.alloc (.cells #[.int .i64 m1, .int .i64 m2] 23)) w1) => rcovers_any v l x w1 (HV.out.ext he) (by omega))
  have HBy := Lib.hid (fun w1 (he : Ext (w.alloc (.cells #[.int .i64 m1, .int .i64 m2] 23)) w1) => beyond_any u v g l w1 (HU.out.ext he) (HV.out.ext he) (by omega) (by omega))
  have HRF := Lib.hid (fun w1 (he : Ext (w.alloc (.cells #[.int .i64 m1, .int .i64 m2] 23)) w1) => rfront_any v l w1 (HV.out.ext he) (by omega))
  have HLB := Lib.hid hb
  have hlen := rfront_len l
  have HM := Lib.hid hm
  clear hm
  obtain ⟨A, c, rfl⟩ := hv.form
  obtain ⟨B, d, rfl⟩ := hu.form
  clear hv hu hF hb
  generalize Mom.covers l (m1, m2) = q at *
  go_enter Try.func5, Try.ntmps5
  go_wp2_with fail
  refine HF.out.mono ?_
  rintro e w1 ⟨vf, rfl, hrf, he1⟩
  have HRF1 := Lib.hid hrf
  have HX1 := Lib.hid he1
  obtain ⟨A1, k1, rfl⟩ := hrf.form
  have c0 := (HB0.out.ext he1).cell 0
  have c1 := (HB0.out.ext he1).cell 1
  clear hrf he1
  go_wp2
  refine wp_region_ext (by kernel_rfl) (by rfl) (by rfl) (by kernel_rfl) ?_
  first | (refine wpM_call0 (fun v _ => v = .bool true) rfl (by first | exact mono_eq | exact (fun _ _ _ ⟨n, h1, h2, h3⟩ k => ⟨n, h1, h2, h3.ext k⟩) | exact (fun _ _ _ h k => RB.ext h k) | exact (fun _ _ _ h k => OB.ext h k) | exact (fun _ _ _ h k => Rd.ext h k) | exact (fun _ _ _ h k => ownsRow_ext h k) | exact (fun _ _ _ h k => RB.extC h k) | exact (fun _ _ _ h k => FB.extC h k) | exact (fun _ _ _ h k => Rd.extC h k)) ?_ ?_) | (refine wpM_call1 (fun v _ => v = .bool true) rfl rfl (by first | exact mono_eq | exact (fun _ _ _ ⟨n, h1, h2, h3⟩ k => ⟨n, h1, h2, h3.ext k⟩) | exact (fun _ _ _ h k => RB.ext h k) | exact (fun _ _ _ h k => OB.ext h k) | exact (fun _ _ _ h k => Rd.ext h k) | exact (fun _ _ _ h k => ownsRow_ext h k) | exact (fun _ _ _ h k => RB.extC h k) | exact (fun _ _ _ h k => FB.extC h k) | exact (fun _ _ _ h k => Rd.extC h k)) ?_ ?_)
  · intro a w' hR  K hK
    go_simp
    refine (lives_any w').mono ?_
    rintro e w2 ⟨rfl, he⟩
    exact hK _ _ he rfl
  repeat (first | ((first | (refine wpM_move00 Ext.refl rfl rfl rfl ?_) | (refine wpM_move01 Ext.refl rfl rfl rfl rfl ?_)); apply Exists.intro; refine ⟨?_, ?_⟩; · (go_simp; rfl)) | (first | (refine wpM_movek0 Ext.refl rfl rfl rfl ?_) | (refine wpM_movek1 Ext.refl rfl rfl rfl rfl ?_)) | ((first | (refine wpM_val0 Ext.refl rfl ?_) | (refine wpM_val1 Ext.refl rfl rfl ?_)); apply Exists.intro; refine ⟨?_, ?_⟩; · (intro a w' hR; intro h1; (first | (have e1 : _ = _ := h1) | skip); intro h2; (first | (have e2 : _ = _ := h2) | skip); go_simp; rfl)) | ((first | (refine wpM_val0 Ext.refl rfl ?_) | (refine wpM_val1 Ext.refl rfl rfl ?_)); apply Exists.intro; refine ⟨?_, ?_⟩; · (intro a w' hR; intro h1; (first | (have e1 : _ = _ := h1) | skip); go_simp; rfl)) | ((first | (refine wpM_val0 Ext.refl rfl ?_) | (refine wpM_val1 Ext.refl rfl rfl ?_)); apply Exists.intro; refine ⟨?_, ?_⟩; · (intro a w' hR; go_simp; rfl)) | ((first | (refine wpM_val0 Ext.refl rfl ?_) | (refine wpM_val1 Ext.refl rfl rfl ?_)); apply Exists.intro; refine ⟨?_, ?_⟩; · (intro a w' hR; intro h1; (first | (have e1 : _ = _ := h1) | skip); intro h2; (first | (have e2 : _ = _ := h2) | skip); intro h3; (first | (have e3 : _ = _ := h3) | skip); go_simp; rfl)) | (refine wpM_skip1 rfl ?_) | (refine wpM_skipU rfl ?_))
  first | (refine wpM_val0 Ext.refl rfl ?_) | (refine wpM_val1 Ext.refl rfl rfl ?_)
  apply Exists.intro; refine ⟨?_, ?_⟩
  · intro a w' hR h1
    have e1 : _ = _ := h1
    have hl0 := hR.cell c0
    have hl1 := hR.cell c1
    go_simp
    rfl
  first | (refine wpM_call0 (fun v _ => v = .bool q) rfl (by first | exact mono_eq | exact (fun _ _ _ ⟨n, h1, h2, h3⟩ k => ⟨n, h1, h2, h3.ext k⟩) | exact (fun _ _ _ h k => RB.ext h k) | exact (fun _ _ _ h k => OB.ext h k) | exact (fun _ _ _ h k => Rd.ext h k) | exact (fun _ _ _ h k => ownsRow_ext h k) | exact (fun _ _ _ h k => RB.extC h k) | exact (fun _ _ _ h k => FB.extC h k) | exact (fun _ _ _ h k => Rd.extC h k)) ?_ ?_) | (refine wpM_call1 (fun v _ => v = .bool q) rfl rfl (by first | exact mono_eq | exact (fun _ _ _ ⟨n, h1, h2, h3⟩ k => ⟨n, h1, h2, h3.ext k⟩) | exact (fun _ _ _ h k => RB.ext h k) | exact (fun _ _ _ h k => OB.ext h k) | exact (fun _ _ _ h k => Rd.ext h k) | exact (fun _ _ _ h k => ownsRow_ext h k) | exact (fun _ _ _ h k => RB.extC h k) | exact (fun _ _ _ h k => FB.extC h k) | exact (fun _ _ _ h k => Rd.extC h k)) ?_ ?_)
  · intro a w' hR h1 h2 K hK
    have e1 : _ = _ := h1
    have e2 : _ = _ := h2
    go_simp
    refine (HC.out w' (HX1.out.trans hR)).mono ?_
    rintro e w2 ⟨rfl, he⟩
    exact hK _ _ he rfl
  repeat (first | ((first | (refine wpM_move00 Ext.refl rfl rfl rfl ?_) | (refine wpM_move01 Ext.refl rfl rfl rfl rfl ?_)); apply Exists.intro; refine ⟨?_, ?_⟩; · (go_simp; rfl)) | (first | (refine wpM_movek0 Ext.refl rfl rfl rfl ?_) | (refine wpM_movek1 Ext.refl rfl rfl rfl rfl ?_)) | ((first | (refine wpM_val0 Ext.refl rfl ?_) | (refine wpM_val1 Ext.refl rfl rfl ?_)); apply Exists.intro; refine ⟨?_, ?_⟩; · (intro a w' hR; intro h1; (first | (have e1 : _ = _ := h1) | skip); intro h2; (first | (have e2 : _ = _ := h2) | skip); go_simp; rfl)) | ((first | (refine wpM_val0 Ext.refl rfl ?_) | (refine wpM_val1 Ext.refl rfl rfl ?_)); apply Exists.intro; refine ⟨?_, ?_⟩; · (intro a w' hR; intro h1; (first | (have e1 : _ = _ := h1) | skip); go_simp; rfl)) | ((first | (refine wpM_val0 Ext.refl rfl ?_) | (refine wpM_val1 Ext.refl rfl rfl ?_)); apply Exists.intro; refine ⟨?_, ?_⟩; · (intro a w' hR; go_simp; rfl)) | ((first | (refine wpM_val0 Ext.refl rfl ?_) | (refine wpM_val1 Ext.refl rfl rfl ?_)); apply Exists.intro; refine ⟨?_, ?_⟩; · (intro a w' hR; intro h1; (first | (have e1 : _ = _ := h1) | skip); intro h2; (first | (have e2 : _ = _ := h2) | skip); intro h3; (first | (have e3 : _ = _ := h3) | skip); go_simp; rfl)) | (refine wpM_skip1 rfl ?_) | (refine wpM_skipU rfl ?_))
  first | (refine wpM_val0 Ext.refl rfl ?_) | (refine wpM_val1 Ext.refl rfl rfl ?_)
  apply Exists.intro; refine ⟨?_, ?_⟩
  · intro a w' hR h1
    have e1 : _ = _ := h1
    have hl0 := hR.cell c0
    have hl1 := hR.cell c1
    go_simp
    rfl
  first | (refine wpM_call0 (fun v _ => v = .bool q) rfl (by first | exact mono_eq | exact (fun _ _ _ ⟨n, h1, h2, h3⟩ k => ⟨n, h1, h2, h3.ext k⟩) | exact (fun _ _ _ h k => RB.ext h k) | exact (fun _ _ _ h k => OB.ext h k) | exact (fun _ _ _ h k => Rd.ext h k) | exact (fun _ _ _ h k => ownsRow_ext h k) | exact (fun _ _ _ h k => RB.extC h k) | exact (fun _ _ _ h k => FB.extC h k) | exact (fun _ _ _ h k => Rd.extC h k)) ?_ ?_) | (refine wpM_call1 (fun v _ => v = .bool q) rfl rfl (by first | exact mono_eq | exact (fun _ _ _ ⟨n, h1, h2, h3⟩ k => ⟨n, h1, h2, h3.ext k⟩) | exact (fun _ _ _ h k => RB.ext h k) | exact (fun _ _ _ h k => OB.ext h k) | exact (fun _ _ _ h k => Rd.ext h k) | exact (fun _ _ _ h k => ownsRow_ext h k) | exact (fun _ _ _ h k => RB.extC h k) | exact (fun _ _ _ h k => FB.extC h k) | exact (fun _ _ _ h k => Rd.extC h k)) ?_ ?_)
  · intro a w' hR h1 h2 K hK
    have e1 : _ = _ := h1
    have e2 : _ = _ := h2
    go_simp
    refine (HR.out w' (HX1.out.trans hR)).mono ?_
    rintro e w2 ⟨rfl, he⟩
    exact hK _ _ he rfl
  repeat (first | ((first | (refine wpM_move00 Ext.refl rfl rfl rfl ?_) | (refine wpM_move01 Ext.refl rfl rfl rfl rfl ?_)); apply Exists.intro; refine ⟨?_, ?_⟩; · (go_simp; rfl)) | (first | (refine wpM_movek0 Ext.refl rfl rfl rfl ?_) | (refine wpM_movek1 Ext.refl rfl rfl rfl rfl ?_)) | ((first | (refine wpM_val0 Ext.refl rfl ?_) | (refine wpM_val1 Ext.refl rfl rfl ?_)); apply Exists.intro; refine ⟨?_, ?_⟩; · (intro a w' hR; intro h1; (first | (have e1 : _ = _ := h1) | skip); intro h2; (first | (have e2 : _ = _ := h2) | skip); go_simp; rfl)) | ((first | (refine wpM_val0 Ext.refl rfl ?_) | (refine wpM_val1 Ext.refl rfl rfl ?_)); apply Exists.intro; refine ⟨?_, ?_⟩; · (intro a w' hR; intro h1; (first | (have e1 : _ = _ := h1) | skip); go_simp; rfl)) | ((first | (refine wpM_val0 Ext.refl rfl ?_) | (refine wpM_val1 Ext.refl rfl rfl ?_)); apply Exists.intro; refine ⟨?_, ?_⟩; · (intro a w' hR; go_simp; rfl)) | ((first | (refine wpM_val0 Ext.refl rfl ?_) | (refine wpM_val1 Ext.refl rfl rfl ?_)); apply Exists.intro; refine ⟨?_, ?_⟩; · (intro a w' hR; intro h1; (first | (have e1 : _ = _ := h1) | skip); intro h2; (first | (have e2 : _ = _ := h2) | skip); intro h3; (first | (have e3 : _ = _ := h3) | skip); go_simp; rfl)) | (refine wpM_skip1 rfl ?_) | (refine wpM_skipU rfl ?_))
  refine wpM_done ?_
  intro w2 hx2
  iterate 11 (rintro _ rfl)
  dsimp only [FinV]
  go_simp
  have HX2 := Lib.hid (HX1.out.trans hx2)
  have HY2 := Lib.hid hx2
  clear hx2 c0 c1
  go_wp2
  go_loopw [9, 10] (fun bv iv wr => ∃ k : Nat, k ≤ g.length ∧ iv = .int .i64 k ∧ bv = .bool ((g.take k).all fun x => Mom.covers l x) ∧ Ext w1 wr) (fun _ iv _ => g.length - (intOf iv).toNat)
  case atStart => exact ⟨0, Nat.zero_le _, rfl, rfl, HY2.out⟩
  case round =>
    obtain ⟨i, hi, rfl, rfl, hext⟩ := hrel
    have HX3 := Lib.hid hext
    clear hext
    by_cases hlt : i < g.length
    · have g3 : (i : Int) < (g.length : Int) := by omega
      have g0 : 0 ≤ (i : Int) := by omega
      obtain ⟨bu, ou, rfl, c2, c3⟩ := HU.out.at_ hlt
      have c2 := (HX1.out.trans HX3.out).cell c2
      have c3 := (HX1.out.trans HX3.out).cell c3
      have HS := Lib.hid (all_take_s g (fun x => Mom.covers l x) i hlt)
      have HRg := Lib.hid (HRx.out g[i])
      generalize g[i] = x at *
      obtain ⟨x1, x2⟩ := x
      dsimp only at *
      generalize Mom.covers l (x1, x2) = qx at *
      cases hbk : (g.take i).all (fun x => Mom.covers l x) with
      | false =>
        have HN := Lib.hid (show (g.take (i + 1)).all (fun x => Mom.covers l x) = false by rw [HS.out, hbk]; rfl)
        clear hbk
        go_wp2
        exact ⟨⟨i + 1, by omega, by go_num, by rw [HN.out], HX3.out⟩, by simp [intOf]; omega⟩
      | true =>
        have HN := Lib.hid (show (g.take (i + 1)).all (fun x => Mom.covers l x) = qx by rw [HS.out, hbk]; simp)
        clear hbk
        go_wp2_with fail
        refine (HRg.out _ (HX1.out.trans HX3.out)).mono ?_
        rintro e w4 ⟨rfl, he4⟩
        go_wp2_with fail
        exact ⟨⟨i + 1, by omega, by go_num, by rw [HN.out], HX3.out.trans he4⟩, by simp [intOf]; omega⟩
    · obtain rfl : i = g.length := by omega
      rw [List.take_length]
      have g3 : ¬ (g.length : Int) < (g.length : Int) := by omega
      generalize hbq : g.all (fun x => Mom.covers l x) = bq at *
      clear hbq
      go_wp2_with fail
      refine (HBy.out _ (HX1.out.trans HX3.out)).mono ?_
      rintro e w4 ⟨rfl, he4⟩
      have HX4 := Lib.hid (HX3.out.trans he4)
      clear he4
      go_wp2_with fail
      go_loopw [11] (fun iv wr => ∃ k : Nat, k ≤ l.length ∧ iv = .int .i64 k ∧ (l.take k).all Mom.ok = true ∧ Ext w1 wr) (fun iv _ => l.length - (intOf iv).toNat)
      case atStart => exact ⟨0, Nat.zero_le _, rfl, rfl, HX4.out⟩
      case round =>
        obtain ⟨k, hk, rfl, hok, hext⟩ := hrel
        have HX5 := Lib.hid hext
        have HOK := Lib.hid hok
        clear hext hok
        by_cases hkl : k < l.length
        · have g4 : (k : Int) < (l.length : Int) := by omega
          have g5 : 0 ≤ (k : Int) := by omega
          obtain ⟨bl, ol, rfl, c2, c3⟩ := HV.out.at_ hkl
          have c2 := (HX1.out.trans HX5.out).cell c2
          have c3 := (HX1.out.trans HX5.out).cell c3
          have HS := Lib.hid (all_take_s l Mom.ok k hkl)
          have HH := Lib.hid (all_hit (p := Mom.ok) hkl)
          generalize l[k] = x at *
          obtain ⟨x1, x2⟩ := x
          dsimp only at *
          have HCK := Lib.hid (fun w => rcheck_any (x1, x2) w)
          cases hq : Mom.ok (x1, x2) with
          | true =>
            rw [hq] at HCK
            have HN := Lib.hid (show (l.take (k + 1)).all Mom.ok = true by rw [HS.out, hq, HOK.out]; rfl)
            clear hq
            go_wp2_with fail
            refine (HCK.out _).mono ?_
            rintro e w6 ⟨rfl, he6⟩
            go_wp2_with fail
            exact ⟨⟨k + 1, by omega, by go_num, HN.out, HX5.out.trans he6⟩, by simp [intOf]; omega⟩
          | false =>
            exact (HH.out hq HLB.out).elim
        · obtain rfl : k = l.length := by omega
          have g4 : ¬ (l.length : Int) < (l.length : Int) := by omega
          go_wp2_with fail
          refine (HRF.out _ (HX1.out.trans HX5.out)).mono ?_
          rintro e w6 ⟨v6, rfl, ho6, he6⟩
          have HO6 := Lib.hid ho6.rp
          obtain ⟨A6, k6, rfl⟩ := ho6.rp.form
          have HX6 := Lib.hid (HX5.out.trans he6)
          clear ho6 he6
          have g6 : (256 : Int) < ((Mom.rfront l).length : Int) := by have := HM.out; omega
          clear HO6
          generalize (Mom.rfront l).length = n6 at *
          go_wp2
          go_ret
          exact ⟨rfl, HX0.out.trans (HX1.out.trans HX6.out)⟩
set_option maxRecDepth 100000 in
set_option maxHeartbeats 8000000 in
theorem fronts_good (v u : Value) (l g : List Mom.M) (m : Mom.M) (w : World) (hv : RP w v l) (hu : RP w u g) (hl : l.length ≤ 300) (hg : g.length ≤ 100) (hb : (l.any fun x => !Mom.ok x) = false) (hm : (Mom.rfront l).length ≤ 256)
    (hF : ∀ w, RP w v l → Calls Try.prog 20 #[v] w fun e w' => ∃ vf, e = .returned (.tuple #[vf, .int .i64 0]) ∧ RP w' vf (Mom.rfront l) ∧ Ext w w') :
    Calls Try.prog 5 #[v, mV m, u] w fun e w' => e = .returned (.bool true) ∧ Ext w w' := by
  obtain ⟨m1, m2⟩ := m
  have HX0 := Lib.hid ((Ext.refl w).alloc (.cells #[.int .i64 m1, .int .i64 m2] 23))
  have HB0 := Lib.hid (Blk.new w 23 #[.int .i64 m1, .int .i64 m2])
  have HF := Lib.hid (hF _ (hv.ext HX0.out))
  have HV := Lib.hid (hv.ext HX0.out)
  have HU := Lib.hid (hu.ext HX0.out)
  have g1 : ¬ (300 : Int) < (l.length : Int) := by omega
  have g2 : ¬ (100 : Int) < (g.length : Int) := by omega
  have HC := Lib.hid (fun w1 (he : Ext (w.alloc (.cells #[.int .i64 m1, .int .i64 m2] 23)) w1) => covers_any v l (m1, m2) w1 (HV.out.ext he) (by omega))
  have HR := Lib.hid (fun w1 (he : Ext (w.alloc (.cells #[.int .i64 m1, .int .i64 m2] 23)) w1) => rcovers_any v l (m1, m2) w1 (HV.out.ext he) (by omega))
  have HRx := Lib.hid (fun x w1 (he : Ext (w.alloc (.cells #[.int .i64 m1, .int .i64 m2] 23)) w1) => rcovers_any v l x w1 (HV.out.ext he) (by omega))
  have HBy := Lib.hid (fun w1 (he : Ext (w.alloc (.cells #[.int .i64 m1, .int .i64 m2] 23)) w1) => beyond_any u v g l w1 (HU.out.ext he) (HV.out.ext he) (by omega) (by omega))
  have HRF := Lib.hid (fun w1 (he : Ext (w.alloc (.cells #[.int .i64 m1, .int .i64 m2] 23)) w1) => rfront_any v l w1 (HV.out.ext he) (by omega))
  have HLB := Lib.hid hb
  have hlen := rfront_len l
  have HCF := Lib.hid (fun (u : Value) (w : World) (hu : RP w u (Mom.rfront l)) => covers_any u (Mom.rfront l) (m1, m2) w hu (by omega))
  rw [covers_rfront] at HCF
  have HSM := Lib.hid (fun (u u' : Value) (w : World) (hu : RP w u (Mom.rfront l)) (hu' : RP w u' (Mom.rfront l)) => same_any u u' (Mom.rfront l) (Mom.rfront l) w hu hu')
  have HM := Lib.hid hm
  clear hm
  obtain ⟨A, c, rfl⟩ := hv.form
  obtain ⟨B, d, rfl⟩ := hu.form
  clear hv hu hF hb
  generalize Mom.covers l (m1, m2) = q at *
  go_enter Try.func5, Try.ntmps5
  go_wp2_with fail
  refine HF.out.mono ?_
  rintro e w1 ⟨vf, rfl, hrf, he1⟩
  have HRF1 := Lib.hid hrf
  have HX1 := Lib.hid he1
  obtain ⟨A1, k1, rfl⟩ := hrf.form
  have c0 := (HB0.out.ext he1).cell 0
  have c1 := (HB0.out.ext he1).cell 1
  clear hrf he1
  go_wp2
  refine wp_region_ext (by kernel_rfl) (by rfl) (by rfl) (by kernel_rfl) ?_
  first | (refine wpM_call0 (fun v _ => v = .bool true) rfl (by first | exact mono_eq | exact (fun _ _ _ ⟨n, h1, h2, h3⟩ k => ⟨n, h1, h2, h3.ext k⟩) | exact (fun _ _ _ h k => RB.ext h k) | exact (fun _ _ _ h k => OB.ext h k) | exact (fun _ _ _ h k => Rd.ext h k) | exact (fun _ _ _ h k => ownsRow_ext h k) | exact (fun _ _ _ h k => RB.extC h k) | exact (fun _ _ _ h k => FB.extC h k) | exact (fun _ _ _ h k => Rd.extC h k)) ?_ ?_) | (refine wpM_call1 (fun v _ => v = .bool true) rfl rfl (by first | exact mono_eq | exact (fun _ _ _ ⟨n, h1, h2, h3⟩ k => ⟨n, h1, h2, h3.ext k⟩) | exact (fun _ _ _ h k => RB.ext h k) | exact (fun _ _ _ h k => OB.ext h k) | exact (fun _ _ _ h k => Rd.ext h k) | exact (fun _ _ _ h k => ownsRow_ext h k) | exact (fun _ _ _ h k => RB.extC h k) | exact (fun _ _ _ h k => FB.extC h k) | exact (fun _ _ _ h k => Rd.extC h k)) ?_ ?_)
  · intro a w' hR  K hK
    go_simp
    refine (lives_any w').mono ?_
    rintro e w2 ⟨rfl, he⟩
    exact hK _ _ he rfl
  repeat (first | ((first | (refine wpM_move00 Ext.refl rfl rfl rfl ?_) | (refine wpM_move01 Ext.refl rfl rfl rfl rfl ?_)); apply Exists.intro; refine ⟨?_, ?_⟩; · (go_simp; rfl)) | (first | (refine wpM_movek0 Ext.refl rfl rfl rfl ?_) | (refine wpM_movek1 Ext.refl rfl rfl rfl rfl ?_)) | ((first | (refine wpM_val0 Ext.refl rfl ?_) | (refine wpM_val1 Ext.refl rfl rfl ?_)); apply Exists.intro; refine ⟨?_, ?_⟩; · (intro a w' hR; intro h1; (first | (have e1 : _ = _ := h1) | skip); intro h2; (first | (have e2 : _ = _ := h2) | skip); go_simp; rfl)) | ((first | (refine wpM_val0 Ext.refl rfl ?_) | (refine wpM_val1 Ext.refl rfl rfl ?_)); apply Exists.intro; refine ⟨?_, ?_⟩; · (intro a w' hR; intro h1; (first | (have e1 : _ = _ := h1) | skip); go_simp; rfl)) | ((first | (refine wpM_val0 Ext.refl rfl ?_) | (refine wpM_val1 Ext.refl rfl rfl ?_)); apply Exists.intro; refine ⟨?_, ?_⟩; · (intro a w' hR; go_simp; rfl)) | ((first | (refine wpM_val0 Ext.refl rfl ?_) | (refine wpM_val1 Ext.refl rfl rfl ?_)); apply Exists.intro; refine ⟨?_, ?_⟩; · (intro a w' hR; intro h1; (first | (have e1 : _ = _ := h1) | skip); intro h2; (first | (have e2 : _ = _ := h2) | skip); intro h3; (first | (have e3 : _ = _ := h3) | skip); go_simp; rfl)) | (refine wpM_skip1 rfl ?_) | (refine wpM_skipU rfl ?_))
  first | (refine wpM_val0 Ext.refl rfl ?_) | (refine wpM_val1 Ext.refl rfl rfl ?_)
  apply Exists.intro; refine ⟨?_, ?_⟩
  · intro a w' hR h1
    have e1 : _ = _ := h1
    have hl0 := hR.cell c0
    have hl1 := hR.cell c1
    go_simp
    rfl
  first | (refine wpM_call0 (fun v _ => v = .bool q) rfl (by first | exact mono_eq | exact (fun _ _ _ ⟨n, h1, h2, h3⟩ k => ⟨n, h1, h2, h3.ext k⟩) | exact (fun _ _ _ h k => RB.ext h k) | exact (fun _ _ _ h k => OB.ext h k) | exact (fun _ _ _ h k => Rd.ext h k) | exact (fun _ _ _ h k => ownsRow_ext h k) | exact (fun _ _ _ h k => RB.extC h k) | exact (fun _ _ _ h k => FB.extC h k) | exact (fun _ _ _ h k => Rd.extC h k)) ?_ ?_) | (refine wpM_call1 (fun v _ => v = .bool q) rfl rfl (by first | exact mono_eq | exact (fun _ _ _ ⟨n, h1, h2, h3⟩ k => ⟨n, h1, h2, h3.ext k⟩) | exact (fun _ _ _ h k => RB.ext h k) | exact (fun _ _ _ h k => OB.ext h k) | exact (fun _ _ _ h k => Rd.ext h k) | exact (fun _ _ _ h k => ownsRow_ext h k) | exact (fun _ _ _ h k => RB.extC h k) | exact (fun _ _ _ h k => FB.extC h k) | exact (fun _ _ _ h k => Rd.extC h k)) ?_ ?_)
  · intro a w' hR h1 h2 K hK
    have e1 : _ = _ := h1
    have e2 : _ = _ := h2
    go_simp
    refine (HC.out w' (HX1.out.trans hR)).mono ?_
    rintro e w2 ⟨rfl, he⟩
    exact hK _ _ he rfl
  repeat (first | ((first | (refine wpM_move00 Ext.refl rfl rfl rfl ?_) | (refine wpM_move01 Ext.refl rfl rfl rfl rfl ?_)); apply Exists.intro; refine ⟨?_, ?_⟩; · (go_simp; rfl)) | (first | (refine wpM_movek0 Ext.refl rfl rfl rfl ?_) | (refine wpM_movek1 Ext.refl rfl rfl rfl rfl ?_)) | ((first | (refine wpM_val0 Ext.refl rfl ?_) | (refine wpM_val1 Ext.refl rfl rfl ?_)); apply Exists.intro; refine ⟨?_, ?_⟩; · (intro a w' hR; intro h1; (first | (have e1 : _ = _ := h1) | skip); intro h2; (first | (have e2 : _ = _ := h2) | skip); go_simp; rfl)) | ((first | (refine wpM_val0 Ext.refl rfl ?_) | (refine wpM_val1 Ext.refl rfl rfl ?_)); apply Exists.intro; refine ⟨?_, ?_⟩; · (intro a w' hR; intro h1; (first | (have e1 : _ = _ := h1) | skip); go_simp; rfl)) | ((first | (refine wpM_val0 Ext.refl rfl ?_) | (refine wpM_val1 Ext.refl rfl rfl ?_)); apply Exists.intro; refine ⟨?_, ?_⟩; · (intro a w' hR; go_simp; rfl)) | ((first | (refine wpM_val0 Ext.refl rfl ?_) | (refine wpM_val1 Ext.refl rfl rfl ?_)); apply Exists.intro; refine ⟨?_, ?_⟩; · (intro a w' hR; intro h1; (first | (have e1 : _ = _ := h1) | skip); intro h2; (first | (have e2 : _ = _ := h2) | skip); intro h3; (first | (have e3 : _ = _ := h3) | skip); go_simp; rfl)) | (refine wpM_skip1 rfl ?_) | (refine wpM_skipU rfl ?_))
  first | (refine wpM_val0 Ext.refl rfl ?_) | (refine wpM_val1 Ext.refl rfl rfl ?_)
  apply Exists.intro; refine ⟨?_, ?_⟩
  · intro a w' hR h1
    have e1 : _ = _ := h1
    have hl0 := hR.cell c0
    have hl1 := hR.cell c1
    go_simp
    rfl
  first | (refine wpM_call0 (fun v _ => v = .bool q) rfl (by first | exact mono_eq | exact (fun _ _ _ ⟨n, h1, h2, h3⟩ k => ⟨n, h1, h2, h3.ext k⟩) | exact (fun _ _ _ h k => RB.ext h k) | exact (fun _ _ _ h k => OB.ext h k) | exact (fun _ _ _ h k => Rd.ext h k) | exact (fun _ _ _ h k => ownsRow_ext h k) | exact (fun _ _ _ h k => RB.extC h k) | exact (fun _ _ _ h k => FB.extC h k) | exact (fun _ _ _ h k => Rd.extC h k)) ?_ ?_) | (refine wpM_call1 (fun v _ => v = .bool q) rfl rfl (by first | exact mono_eq | exact (fun _ _ _ ⟨n, h1, h2, h3⟩ k => ⟨n, h1, h2, h3.ext k⟩) | exact (fun _ _ _ h k => RB.ext h k) | exact (fun _ _ _ h k => OB.ext h k) | exact (fun _ _ _ h k => Rd.ext h k) | exact (fun _ _ _ h k => ownsRow_ext h k) | exact (fun _ _ _ h k => RB.extC h k) | exact (fun _ _ _ h k => FB.extC h k) | exact (fun _ _ _ h k => Rd.extC h k)) ?_ ?_)
  · intro a w' hR h1 h2 K hK
    have e1 : _ = _ := h1
    have e2 : _ = _ := h2
    go_simp
    refine (HR.out w' (HX1.out.trans hR)).mono ?_
    rintro e w2 ⟨rfl, he⟩
    exact hK _ _ he rfl
  repeat (first | ((first | (refine wpM_move00 Ext.refl rfl rfl rfl ?_) | (refine wpM_move01 Ext.refl rfl rfl rfl rfl ?_)); apply Exists.intro; refine ⟨?_, ?_⟩; · (go_simp; rfl)) | (first | (refine wpM_movek0 Ext.refl rfl rfl rfl ?_) | (refine wpM_movek1 Ext.refl rfl rfl rfl rfl ?_)) | ((first | (refine wpM_val0 Ext.refl rfl ?_) | (refine wpM_val1 Ext.refl rfl rfl ?_)); apply Exists.intro; refine ⟨?_, ?_⟩; · (intro a w' hR; intro h1; (first | (have e1 : _ = _ := h1) | skip); intro h2; (first | (have e2 : _ = _ := h2) | skip); go_simp; rfl)) | ((first | (refine wpM_val0 Ext.refl rfl ?_) | (refine wpM_val1 Ext.refl rfl rfl ?_)); apply Exists.intro; refine ⟨?_, ?_⟩; · (intro a w' hR; intro h1; (first | (have e1 : _ = _ := h1) | skip); go_simp; rfl)) | ((first | (refine wpM_val0 Ext.refl rfl ?_) | (refine wpM_val1 Ext.refl rfl rfl ?_)); apply Exists.intro; refine ⟨?_, ?_⟩; · (intro a w' hR; go_simp; rfl)) | ((first | (refine wpM_val0 Ext.refl rfl ?_) | (refine wpM_val1 Ext.refl rfl rfl ?_)); apply Exists.intro; refine ⟨?_, ?_⟩; · (intro a w' hR; intro h1; (first | (have e1 : _ = _ := h1) | skip); intro h2; (first | (have e2 : _ = _ := h2) | skip); intro h3; (first | (have e3 : _ = _ := h3) | skip); go_simp; rfl)) | (refine wpM_skip1 rfl ?_) | (refine wpM_skipU rfl ?_))
  refine wpM_done ?_
  intro w2 hx2
  iterate 11 (rintro _ rfl)
  dsimp only [FinV]
  go_simp
  have HX2 := Lib.hid (HX1.out.trans hx2)
  have HY2 := Lib.hid hx2
  clear hx2 c0 c1
  go_wp2
  go_loopw [9, 10] (fun bv iv wr => ∃ k : Nat, k ≤ g.length ∧ iv = .int .i64 k ∧ bv = .bool ((g.take k).all fun x => Mom.covers l x) ∧ Ext w1 wr) (fun _ iv _ => g.length - (intOf iv).toNat)
  case atStart => exact ⟨0, Nat.zero_le _, rfl, rfl, HY2.out⟩
  case round =>
    obtain ⟨i, hi, rfl, rfl, hext⟩ := hrel
    have HX3 := Lib.hid hext
    clear hext
    by_cases hlt : i < g.length
    · have g3 : (i : Int) < (g.length : Int) := by omega
      have g0 : 0 ≤ (i : Int) := by omega
      obtain ⟨bu, ou, rfl, c2, c3⟩ := HU.out.at_ hlt
      have c2 := (HX1.out.trans HX3.out).cell c2
      have c3 := (HX1.out.trans HX3.out).cell c3
      have HS := Lib.hid (all_take_s g (fun x => Mom.covers l x) i hlt)
      have HRg := Lib.hid (HRx.out g[i])
      generalize g[i] = x at *
      obtain ⟨x1, x2⟩ := x
      dsimp only at *
      generalize Mom.covers l (x1, x2) = qx at *
      cases hbk : (g.take i).all (fun x => Mom.covers l x) with
      | false =>
        have HN := Lib.hid (show (g.take (i + 1)).all (fun x => Mom.covers l x) = false by rw [HS.out, hbk]; rfl)
        clear hbk
        go_wp2
        exact ⟨⟨i + 1, by omega, by go_num, by rw [HN.out], HX3.out⟩, by simp [intOf]; omega⟩
      | true =>
        have HN := Lib.hid (show (g.take (i + 1)).all (fun x => Mom.covers l x) = qx by rw [HS.out, hbk]; simp)
        clear hbk
        go_wp2_with fail
        refine (HRg.out _ (HX1.out.trans HX3.out)).mono ?_
        rintro e w4 ⟨rfl, he4⟩
        go_wp2_with fail
        exact ⟨⟨i + 1, by omega, by go_num, by rw [HN.out], HX3.out.trans he4⟩, by simp [intOf]; omega⟩
    · obtain rfl : i = g.length := by omega
      rw [List.take_length]
      have g3 : ¬ (g.length : Int) < (g.length : Int) := by omega
      generalize hbq : g.all (fun x => Mom.covers l x) = bq at *
      clear hbq
      go_wp2_with fail
      refine (HBy.out _ (HX1.out.trans HX3.out)).mono ?_
      rintro e w4 ⟨rfl, he4⟩
      have HX4 := Lib.hid (HX3.out.trans he4)
      clear he4
      go_wp2_with fail
      go_loopw [11] (fun iv wr => ∃ k : Nat, k ≤ l.length ∧ iv = .int .i64 k ∧ (l.take k).all Mom.ok = true ∧ Ext w1 wr) (fun iv _ => l.length - (intOf iv).toNat)
      case atStart => exact ⟨0, Nat.zero_le _, rfl, rfl, HX4.out⟩
      case round =>
        obtain ⟨k, hk, rfl, hok, hext⟩ := hrel
        have HX5 := Lib.hid hext
        have HOK := Lib.hid hok
        clear hext hok
        by_cases hkl : k < l.length
        · have g4 : (k : Int) < (l.length : Int) := by omega
          have g5 : 0 ≤ (k : Int) := by omega
          obtain ⟨bl, ol, rfl, c2, c3⟩ := HV.out.at_ hkl
          have c2 := (HX1.out.trans HX5.out).cell c2
          have c3 := (HX1.out.trans HX5.out).cell c3
          have HS := Lib.hid (all_take_s l Mom.ok k hkl)
          have HH := Lib.hid (all_hit (p := Mom.ok) hkl)
          generalize l[k] = x at *
          obtain ⟨x1, x2⟩ := x
          dsimp only at *
          have HCK := Lib.hid (fun w => rcheck_any (x1, x2) w)
          cases hq : Mom.ok (x1, x2) with
          | true =>
            rw [hq] at HCK
            have HN := Lib.hid (show (l.take (k + 1)).all Mom.ok = true by rw [HS.out, hq, HOK.out]; rfl)
            clear hq
            go_wp2_with fail
            refine (HCK.out _).mono ?_
            rintro e w6 ⟨rfl, he6⟩
            go_wp2_with fail
            exact ⟨⟨k + 1, by omega, by go_num, HN.out, HX5.out.trans he6⟩, by simp [intOf]; omega⟩
          | false =>
            exact (HH.out hq HLB.out).elim
        · obtain rfl : k = l.length := by omega
          have g4 : ¬ (l.length : Int) < (l.length : Int) := by omega
          go_wp2_with fail
          refine (HRF.out _ (HX1.out.trans HX5.out)).mono ?_
          rintro e w6 ⟨v6, rfl, ho6, he6⟩
          have HO6 := Lib.hid ho6.rp
          obtain ⟨A6, k6, rfl⟩ := ho6.rp.form
          have HX6 := Lib.hid (HX5.out.trans he6)
          clear ho6 he6
          have g6 : ¬ (256 : Int) < ((Mom.rfront l).length : Int) := by have := HM.out; omega
          have HRF6 := Lib.hid (HRF1.out.ext HX6.out)
          have c0 := (HB0.out.ext (HX1.out.trans HX6.out)).cell 0
          have c1 := (HB0.out.ext (HX1.out.trans HX6.out)).cell 1
          generalize Mom.rfront l = F at *
          go_wp2
          refine wp_region_ext (by kernel_rfl) (by rfl) (by rfl) (by kernel_rfl) ?_
          repeat (first | ((first | (refine wpM_move00 Ext.refl rfl rfl rfl ?_) | (refine wpM_move01 Ext.refl rfl rfl rfl rfl ?_)); apply Exists.intro; refine ⟨?_, ?_⟩; · (go_simp; rfl)) | (first | (refine wpM_movek0 Ext.refl rfl rfl rfl ?_) | (refine wpM_movek1 Ext.refl rfl rfl rfl rfl ?_)) | ((first | (refine wpM_val0 Ext.refl rfl ?_) | (refine wpM_val1 Ext.refl rfl rfl ?_)); apply Exists.intro; refine ⟨?_, ?_⟩; · (intro a w' hR; intro h1; (first | (have e1 : _ = _ := h1) | skip); intro h2; (first | (have e2 : _ = _ := h2) | skip); go_simp; rfl)) | ((first | (refine wpM_val0 Ext.refl rfl ?_) | (refine wpM_val1 Ext.refl rfl rfl ?_)); apply Exists.intro; refine ⟨?_, ?_⟩; · (intro a w' hR; intro h1; (first | (have e1 : _ = _ := h1) | skip); go_simp; rfl)) | ((first | (refine wpM_val0 Ext.refl rfl ?_) | (refine wpM_val1 Ext.refl rfl rfl ?_)); apply Exists.intro; refine ⟨?_, ?_⟩; · (intro a w' hR; go_simp; rfl)) | ((first | (refine wpM_val0 Ext.refl rfl ?_) | (refine wpM_val1 Ext.refl rfl rfl ?_)); apply Exists.intro; refine ⟨?_, ?_⟩; · (intro a w' hR; intro h1; (first | (have e1 : _ = _ := h1) | skip); intro h2; (first | (have e2 : _ = _ := h2) | skip); intro h3; (first | (have e3 : _ = _ := h3) | skip); go_simp; rfl)) | (refine wpM_skip1 rfl ?_) | (refine wpM_skipU rfl ?_))
          first | (refine wpM_call0 (fun v _ => v = .bool true) rfl (by first | exact mono_eq | exact (fun _ _ _ ⟨n, h1, h2, h3⟩ k => ⟨n, h1, h2, h3.ext k⟩) | exact (fun _ _ _ h k => RB.ext h k) | exact (fun _ _ _ h k => OB.ext h k) | exact (fun _ _ _ h k => Rd.ext h k) | exact (fun _ _ _ h k => ownsRow_ext h k) | exact (fun _ _ _ h k => RB.extC h k) | exact (fun _ _ _ h k => FB.extC h k) | exact (fun _ _ _ h k => Rd.extC h k)) ?_ ?_) | (refine wpM_call1 (fun v _ => v = .bool true) rfl rfl (by first | exact mono_eq | exact (fun _ _ _ ⟨n, h1, h2, h3⟩ k => ⟨n, h1, h2, h3.ext k⟩) | exact (fun _ _ _ h k => RB.ext h k) | exact (fun _ _ _ h k => OB.ext h k) | exact (fun _ _ _ h k => Rd.ext h k) | exact (fun _ _ _ h k => ownsRow_ext h k) | exact (fun _ _ _ h k => RB.extC h k) | exact (fun _ _ _ h k => FB.extC h k) | exact (fun _ _ _ h k => Rd.extC h k)) ?_ ?_)
          · intro a w' hR h1 h2 K hK
            have e1 : _ = _ := h1
            have e2 : _ = _ := h2
            go_simp
            refine (HSM.out _ _ w' (HRF6.out.ext hR) (HO6.out.ext hR)).mono ?_
            rintro e w2 ⟨rfl, he⟩
            exact hK _ _ he (by simp)
          repeat (first | ((first | (refine wpM_move00 Ext.refl rfl rfl rfl ?_) | (refine wpM_move01 Ext.refl rfl rfl rfl rfl ?_)); apply Exists.intro; refine ⟨?_, ?_⟩; · (go_simp; rfl)) | (first | (refine wpM_movek0 Ext.refl rfl rfl rfl ?_) | (refine wpM_movek1 Ext.refl rfl rfl rfl rfl ?_)) | ((first | (refine wpM_val0 Ext.refl rfl ?_) | (refine wpM_val1 Ext.refl rfl rfl ?_)); apply Exists.intro; refine ⟨?_, ?_⟩; · (intro a w' hR; intro h1; (first | (have e1 : _ = _ := h1) | skip); intro h2; (first | (have e2 : _ = _ := h2) | skip); go_simp; rfl)) | ((first | (refine wpM_val0 Ext.refl rfl ?_) | (refine wpM_val1 Ext.refl rfl rfl ?_)); apply Exists.intro; refine ⟨?_, ?_⟩; · (intro a w' hR; intro h1; (first | (have e1 : _ = _ := h1) | skip); go_simp; rfl)) | ((first | (refine wpM_val0 Ext.refl rfl ?_) | (refine wpM_val1 Ext.refl rfl rfl ?_)); apply Exists.intro; refine ⟨?_, ?_⟩; · (intro a w' hR; go_simp; rfl)) | ((first | (refine wpM_val0 Ext.refl rfl ?_) | (refine wpM_val1 Ext.refl rfl rfl ?_)); apply Exists.intro; refine ⟨?_, ?_⟩; · (intro a w' hR; intro h1; (first | (have e1 : _ = _ := h1) | skip); intro h2; (first | (have e2 : _ = _ := h2) | skip); intro h3; (first | (have e3 : _ = _ := h3) | skip); go_simp; rfl)) | (refine wpM_skip1 rfl ?_) | (refine wpM_skipU rfl ?_))
          first | (refine wpM_val0 Ext.refl rfl ?_) | (refine wpM_val1 Ext.refl rfl rfl ?_)
          apply Exists.intro; refine ⟨?_, ?_⟩
          · intro a w' hR h1
            have e1 : _ = _ := h1
            have hl0 := hR.cell c0
            have hl1 := hR.cell c1
            go_simp
            rfl
          first | (refine wpM_call0 (fun v _ => v = .bool q) rfl (by first | exact mono_eq | exact (fun _ _ _ ⟨n, h1, h2, h3⟩ k => ⟨n, h1, h2, h3.ext k⟩) | exact (fun _ _ _ h k => RB.ext h k) | exact (fun _ _ _ h k => OB.ext h k) | exact (fun _ _ _ h k => Rd.ext h k) | exact (fun _ _ _ h k => ownsRow_ext h k) | exact (fun _ _ _ h k => RB.extC h k) | exact (fun _ _ _ h k => FB.extC h k) | exact (fun _ _ _ h k => Rd.extC h k)) ?_ ?_) | (refine wpM_call1 (fun v _ => v = .bool q) rfl rfl (by first | exact mono_eq | exact (fun _ _ _ ⟨n, h1, h2, h3⟩ k => ⟨n, h1, h2, h3.ext k⟩) | exact (fun _ _ _ h k => RB.ext h k) | exact (fun _ _ _ h k => OB.ext h k) | exact (fun _ _ _ h k => Rd.ext h k) | exact (fun _ _ _ h k => ownsRow_ext h k) | exact (fun _ _ _ h k => RB.extC h k) | exact (fun _ _ _ h k => FB.extC h k) | exact (fun _ _ _ h k => Rd.extC h k)) ?_ ?_)
          · intro a w' hR h1 h2 K hK
            have e1 : _ = _ := h1
            have e2 : _ = _ := h2
            go_simp
            refine (HCF.out _ w' (HRF6.out.ext hR)).mono ?_
            rintro e w2 ⟨rfl, he⟩
            exact hK _ _ he rfl
          repeat (first | ((first | (refine wpM_move00 Ext.refl rfl rfl rfl ?_) | (refine wpM_move01 Ext.refl rfl rfl rfl rfl ?_)); apply Exists.intro; refine ⟨?_, ?_⟩; · (go_simp; rfl)) | (first | (refine wpM_movek0 Ext.refl rfl rfl rfl ?_) | (refine wpM_movek1 Ext.refl rfl rfl rfl rfl ?_)) | ((first | (refine wpM_val0 Ext.refl rfl ?_) | (refine wpM_val1 Ext.refl rfl rfl ?_)); apply Exists.intro; refine ⟨?_, ?_⟩; · (intro a w' hR; intro h1; (first | (have e1 : _ = _ := h1) | skip); intro h2; (first | (have e2 : _ = _ := h2) | skip); go_simp; rfl)) | ((first | (refine wpM_val0 Ext.refl rfl ?_) | (refine wpM_val1 Ext.refl rfl rfl ?_)); apply Exists.intro; refine ⟨?_, ?_⟩; · (intro a w' hR; intro h1; (first | (have e1 : _ = _ := h1) | skip); go_simp; rfl)) | ((first | (refine wpM_val0 Ext.refl rfl ?_) | (refine wpM_val1 Ext.refl rfl rfl ?_)); apply Exists.intro; refine ⟨?_, ?_⟩; · (intro a w' hR; go_simp; rfl)) | ((first | (refine wpM_val0 Ext.refl rfl ?_) | (refine wpM_val1 Ext.refl rfl rfl ?_)); apply Exists.intro; refine ⟨?_, ?_⟩; · (intro a w' hR; intro h1; (first | (have e1 : _ = _ := h1) | skip); intro h2; (first | (have e2 : _ = _ := h2) | skip); intro h3; (first | (have e3 : _ = _ := h3) | skip); go_simp; rfl)) | (refine wpM_skip1 rfl ?_) | (refine wpM_skipU rfl ?_))
          first | (refine wpM_val0 Ext.refl rfl ?_) | (refine wpM_val1 Ext.refl rfl rfl ?_)
          apply Exists.intro; refine ⟨?_, ?_⟩
          · intro a w' hR h1
            have e1 : _ = _ := h1
            have hl0 := hR.cell c0
            have hl1 := hR.cell c1
            go_simp
            rfl
          first | (refine wpM_call0 (fun v _ => v = .bool q) rfl (by first | exact mono_eq | exact (fun _ _ _ ⟨n, h1, h2, h3⟩ k => ⟨n, h1, h2, h3.ext k⟩) | exact (fun _ _ _ h k => RB.ext h k) | exact (fun _ _ _ h k => OB.ext h k) | exact (fun _ _ _ h k => Rd.ext h k) | exact (fun _ _ _ h k => ownsRow_ext h k) | exact (fun _ _ _ h k => RB.extC h k) | exact (fun _ _ _ h k => FB.extC h k) | exact (fun _ _ _ h k => Rd.extC h k)) ?_ ?_) | (refine wpM_call1 (fun v _ => v = .bool q) rfl rfl (by first | exact mono_eq | exact (fun _ _ _ ⟨n, h1, h2, h3⟩ k => ⟨n, h1, h2, h3.ext k⟩) | exact (fun _ _ _ h k => RB.ext h k) | exact (fun _ _ _ h k => OB.ext h k) | exact (fun _ _ _ h k => Rd.ext h k) | exact (fun _ _ _ h k => ownsRow_ext h k) | exact (fun _ _ _ h k => RB.extC h k) | exact (fun _ _ _ h k => FB.extC h k) | exact (fun _ _ _ h k => Rd.extC h k)) ?_ ?_)
          · intro a w' hR h1 h2 K hK
            have e1 : _ = _ := h1
            have e2 : _ = _ := h2
            go_simp
            refine (HR.out w' ((HX1.out.trans HX6.out).trans hR)).mono ?_
            rintro e w2 ⟨rfl, he⟩
            exact hK _ _ he rfl
          repeat (first | ((first | (refine wpM_move00 Ext.refl rfl rfl rfl ?_) | (refine wpM_move01 Ext.refl rfl rfl rfl rfl ?_)); apply Exists.intro; refine ⟨?_, ?_⟩; · (go_simp; rfl)) | (first | (refine wpM_movek0 Ext.refl rfl rfl rfl ?_) | (refine wpM_movek1 Ext.refl rfl rfl rfl rfl ?_)) | ((first | (refine wpM_val0 Ext.refl rfl ?_) | (refine wpM_val1 Ext.refl rfl rfl ?_)); apply Exists.intro; refine ⟨?_, ?_⟩; · (intro a w' hR; intro h1; (first | (have e1 : _ = _ := h1) | skip); intro h2; (first | (have e2 : _ = _ := h2) | skip); go_simp; rfl)) | ((first | (refine wpM_val0 Ext.refl rfl ?_) | (refine wpM_val1 Ext.refl rfl rfl ?_)); apply Exists.intro; refine ⟨?_, ?_⟩; · (intro a w' hR; intro h1; (first | (have e1 : _ = _ := h1) | skip); go_simp; rfl)) | ((first | (refine wpM_val0 Ext.refl rfl ?_) | (refine wpM_val1 Ext.refl rfl rfl ?_)); apply Exists.intro; refine ⟨?_, ?_⟩; · (intro a w' hR; go_simp; rfl)) | ((first | (refine wpM_val0 Ext.refl rfl ?_) | (refine wpM_val1 Ext.refl rfl rfl ?_)); apply Exists.intro; refine ⟨?_, ?_⟩; · (intro a w' hR; intro h1; (first | (have e1 : _ = _ := h1) | skip); intro h2; (first | (have e2 : _ = _ := h2) | skip); intro h3; (first | (have e3 : _ = _ := h3) | skip); go_simp; rfl)) | (refine wpM_skip1 rfl ?_) | (refine wpM_skipU rfl ?_))
          refine wpM_done ?_
          intro w7 hx7
          iterate 16 (rintro _ rfl)
          dsimp only [FinV]
          go_simp
          have HX7 := Lib.hid (HX6.out.trans hx7)
          clear hx7
          go_wp2
          go_ret
          exact ⟨by simp, HX0.out.trans (HX1.out.trans HX7.out)⟩

theorem fronts_any (v u : Value) (l g : List Mom.M) (m : Mom.M) (w : World) (hv : RP w v l) (hu : RP w u g) :
    Calls Try.prog 5 #[v, mV m, u] w fun e w' => e = .returned (.bool true) ∧ Ext w w' := by
  by_cases h1 : 300 < l.length
  · exact fronts_long v u l g m w hv hu (.inl h1)
  by_cases h2 : 100 < g.length
  · exact fronts_long v u l g m w hv hu (.inr ⟨by omega, h2⟩)
  cases hb : l.any fun x => !Mom.ok x with
  | true =>
    refine fronts_bad v u l g m w hv hu (by omega) (by omega) hb fun w hv => (front_bad v l w hv (by omega) hb).mono ?_
    rintro e w' ⟨rfl, he⟩
    exact ⟨_, rfl, RP.nilS _, he⟩
  | false =>
    by_cases h3 : 256 < (Mom.rfront l).length
    · refine fronts_many v u l g m w hv hu (by omega) (by omega) hb h3 fun w hv => (front_good v l w hv (by omega) hb).mono ?_
      rintro e w' ⟨he, ⟨_, rfl⟩ | ⟨h4, _⟩⟩
      · exact ⟨_, rfl, RP.nilS _, he⟩
      · omega
    · refine fronts_good v u l g m w hv hu (by omega) (by omega) hb (by omega) fun w hv => (front_good v l w hv (by omega) hb).mono ?_
      rintro e w' ⟨he, ⟨h4, _⟩ | ⟨_, v', rfl, ho⟩⟩
      · omega
      · exact ⟨_, rfl, ho.rp, he⟩
theorem momentFronts_law (w : World) (v : Value) (l : List Mom.M) (hv : RP w v l) (u : Value) (a : Mom.M) (hu : u = mV a) (x : Value) (g : List Mom.M) (hx : RP w x g) :
    Calls Try.prog 5 #[v, u, x] w fun e w' => e = .returned (.bool true) ∧ Ext w w' := by
  subst hu
  exact fronts_any v x l g a w hv hx
end Go.Proofs.Ytbcbhcohfbkijaa
