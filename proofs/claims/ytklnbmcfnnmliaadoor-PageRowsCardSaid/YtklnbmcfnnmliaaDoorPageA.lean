/-
  The statements' own functions of layer 6: bytes as a row of pages.
-/
import Derived.Test.YtklnbmcfnnmliaaDoorPage6
import Derived.Test.YtklnbmcfnnmliaaDoorOpenR
import Derived.Deep.DeepCutAuto
namespace Go.Proofs.YtklnbmcfnnmliaaDoor
open Go.RowKit Go.Ox
attribute [local irreducible] OB RB

theorem Rwo.rbb {T base : Nat} {w : World} {v : Value} {ls : List (List UInt8)} {vs : List Value} (h : Rwo T base 1 w v (ls.map byteRow) vs) : RBB w v ls := h.rr
/-- rows behind rows -/
theorem rows_app {w w' : World} {base T : Nat} {v v' : Value} {r1 r2 : List (Nat × List Value)} {vs us : List Value} (h1 : w.ownsRow base T 1 v r1.length vs) (a1 : ∀ (k : Nat) (hk : k < r1.length), ∃ x, vs[k]? = some x ∧ Rd w' 1 x r1[k].1 r1[k].2)
    (a2 : ∀ (k : Nat) (hk : k < r2.length), ∃ x, us[k]? = some x ∧ Rd w' 1 x r2[k].1 r2[k].2) (ha : Appended w w' base T 1 v v' r1.length r2.length vs us) : Rws 1 w' v' (r1 ++ r2) := by
  have hl1 : vs.length = r1.length := by have := h1.1; omega
  refine ⟨vs ++ us, by rw [List.length_append]; exact Rd.of_own ha.own, fun k hk => ?_⟩
  by_cases hk2 : k < r1.length
  · obtain ⟨x, hx, hr⟩ := a1 k hk2
    exact ⟨x, by rw [List.getElem?_append_left (by omega)]; exact hx, by rw [List.getElem_append_left hk2]; exact hr⟩
  · have hk3 : k - r1.length < r2.length := by rw [List.length_append] at hk; omega
    obtain ⟨x, hx, hr⟩ := a2 _ hk3
    exact ⟨x, by rw [List.getElem?_append_right (by omega), hl1]; exact hx, by rw [List.getElem_append_right (by omega)]; exact hr⟩

def RowsGoal (W : World) (x0 : Int) (v1 v2 : Value) : Prop := Calls Tryd.prog 4 #[.int .i64 x0, v1, v2] W fun e w' => e = .returned (.bool true) ∧ Ext W w'

set_option maxRecDepth 100000 in
set_option maxHeartbeats 1000000 in
theorem rows_skip1 (W : World) (hh : Halves W) (x0 : Int) (v1 : Value) (x1 : List UInt8) (b1 : RB W v1 x1) (v2 : Value) (x2 : List (List UInt8)) (b2 : RBB W v2 x2) (h1 : 5000 < x1.length) (h2 : x1.length ≤ 65536) : RowsGoal W x0 v1 v2 := by
  unfold RowsGoal
  obtain ⟨A1, c1, rfl⟩ := b1.form
  obtain ⟨A2, c2, rfl⟩ := b2.form
  have HV := Lib.hid (fun (w : World) (he : Ext W w) => plives_any w (hh.ext he))
  have d1 : decide ((5000 : Int) < (x1.length : Int)) = true := decide_eq_true (by omega)
  have d2 : decide ((x1.length : Int) ≤ 65536) = true := decide_eq_true (by omega)
  clear hh b1 b2 h1 h2
  go_enter Tryd.func4, Tryd.ntmps4
  go_wp2_with (go_at_call 7; refine (HV.out _ (Ext.refl _)).mono ?_; rintro e w1 ⟨rfl, he1⟩)
  go_ret
  exact ⟨rfl, he1⟩
set_option maxRecDepth 100000 in
set_option maxHeartbeats 1000000 in
theorem rows_skip2 (W : World) (hh : Halves W) (x0 : Int) (v1 : Value) (x1 : List UInt8) (b1 : RB W v1 x1) (v2 : Value) (x2 : List (List UInt8)) (b2 : RBB W v2 x2) (h1 : ¬ (5000 < x1.length ∧ x1.length ≤ 65536)) (h2 : 10 < x2.length) : RowsGoal W x0 v1 v2 := by
  unfold RowsGoal
  obtain ⟨A1, c1, rfl⟩ := b1.form
  obtain ⟨A2, c2, rfl⟩ := b2.form
  have HV := Lib.hid (fun (w : World) (he : Ext W w) => plives_any w (hh.ext he))
  have d3 : decide ((10 : Int) < (x2.length : Int)) = true := decide_eq_true (by omega)
  by_cases h3 : 5000 < x1.length
  · have d1 : decide ((5000 : Int) < (x1.length : Int)) = true := decide_eq_true (by omega)
    have d2 : decide ((x1.length : Int) ≤ 65536) = false := decide_eq_false (by omega)
    clear hh b1 b2 h1 h2 h3
    go_enter Tryd.func4, Tryd.ntmps4
    go_wp2_with (go_at_call 7; refine (HV.out _ (Ext.refl _)).mono ?_; rintro e w1 ⟨rfl, he1⟩)
    go_ret
    exact ⟨rfl, he1⟩
  · have d1 : decide ((5000 : Int) < (x1.length : Int)) = false := decide_eq_false (by omega)
    clear hh b1 b2 h1 h2 h3
    go_enter Tryd.func4, Tryd.ntmps4
    go_wp2_with (go_at_call 7; refine (HV.out _ (Ext.refl _)).mono ?_; rintro e w1 ⟨rfl, he1⟩)
    go_ret
    exact ⟨rfl, he1⟩

set_option maxRecDepth 100000 in
set_option maxHeartbeats 1000000 in
theorem rows_no (W : World) (hh : Halves W) (x0 : Int) (v1 : Value) (x1 : List UInt8) (s1 : x1.length ≤ 140737488351232) (b1 : RB W v1 x1) (v2 : Value) (x2 : List (List UInt8)) (b2 : RBB W v2 x2) (h1 : ¬ (5000 < x1.length ∧ x1.length ≤ 65536)) (h2 : ¬ 10 < x2.length) (err : Int) (he0 : (err == 0) = false)
    (hr : Calls Tryd.prog 13 #[.int .i64 x0, v1] W fun e w' => e = .returned (.tuple #[.slice none 0 0, .int .i64 err]) ∧ W = w') (h3 : x0 < 1 ∨ 1 ≤ x0 ∧ 4611686018427387903 - (x1.length : Int) / 42 < x0) : RowsGoal W x0 v1 v2 := by
  unfold RowsGoal
  obtain ⟨A1, c1, rfl⟩ := b1.form
  obtain ⟨A2, c2, rfl⟩ := b2.form
  have HV := Lib.hid (fun (w : World) (he : Ext W w) => plives_any w (hh.ext he))
  have HR := Lib.hid hr
  have H1 := Lib.hid h1
  have H3 := Lib.hid h3
  have d3 : decide ((10 : Int) < (x2.length : Int)) = false := decide_eq_false (by omega)
  have g3 : ¬ (10 : Int) < (x2.length : Int) := by omega
  have h0e : ¬ err = 0 := by simpa using he0
  clear hh b1 b2 h1 h2 hr h3
  go_enter Tryd.func4, Tryd.ntmps4
  go_upto_region 1 with fail
  go_cut [24] (fun s wx => s = .bool false ∧ W = wx)
  case first =>
    by_cases h3 : 5000 < x1.length
    · have d1 : decide ((5000 : Int) < (x1.length : Int)) = true := decide_eq_true (by omega)
      have d2 : decide ((x1.length : Int) ≤ 65536) = false := decide_eq_false (by have := H1.out; omega)
      go_wp2
      go_meet
      exact ⟨rfl, rfl⟩
    · have d1 : decide ((5000 : Int) < (x1.length : Int)) = false := decide_eq_false (by omega)
      go_wp2
      go_meet
      exact ⟨rfl, rfl⟩
  case rest =>
    obtain ⟨rfl, rfl⟩ := hcut
    rcases H3.out with h4 | ⟨h4, h5⟩
    · have d4 : decide (x0 < 1) = true := decide_eq_true h4
      clear h4 H3 H1
      go_wp2_with (first
        | (go_at_call 13; refine HR.out.mono ?_; rintro e w' ⟨rfl, rfl⟩)
        | (go_at_call 7; refine (HV.out _ (Ext.refl _)).mono ?_; rintro e w1 ⟨rfl, he1⟩))
      go_ret
      exact ⟨rfl, he1⟩
    · have d4 : decide (x0 < 1) = false := decide_eq_false (by omega)
      have d5 : decide (4611686018427387903 - (x1.length : Int) / 42 < x0) = true := decide_eq_true h5
      clear h4 h5 H3 H1
      go_wp2_with (first
        | (go_at_call 13; refine HR.out.mono ?_; rintro e w' ⟨rfl, rfl⟩)
        | (go_at_call 7; refine (HV.out _ (Ext.refl _)).mono ?_; rintro e w1 ⟨rfl, he1⟩))
      go_ret
      exact ⟨rfl, he1⟩

theorem pages_go2 (a : Nat) : (pages a : Int) ≤ (a : Int) / 42 + 1 := by
  rw [pages_int]; split <;> omega
theorem rowL_one (n : Nat) (b : List UInt8) (h : b.length ≤ 5000) : (rowL n b).length ≤ 100000 := by
  rw [rowL_len]; have := pages_le b.length; omega

set_option maxRecDepth 100000 in
set_option maxHeartbeats 2000000 in
theorem rows_yes (W : World) (hh : Halves W) (n : Nat) (v1 : Value) (x1 : List UInt8) (b1 : RB W v1 x1) (v2 : Value) (x2 : List (List UInt8)) (b2 : RBB W v2 x2) (hl : x1.length ≤ 5000) (h2 : x2.length ≤ 10) (hn1 : 1 ≤ n) (hn2 : n + pages x1.length ≤ 4611686018427387904)
    (hd : (n : Int) ≤ 4611686018427387903 - (x1.length : Int) / 42) : RowsGoal W n v1 v2 := by
  unfold RowsGoal
  obtain ⟨A1, c1, rfl⟩ := b1.form
  obtain ⟨A2, c2, rfl⟩ := b2.form
  have HV := Lib.hid (fun (w : World) (he : Ext W w) => plives_any w (hh.ext he))
  have HH := Lib.hid hh
  have HB1 := Lib.hid b1
  have HB2 := Lib.hid b2
  have HPR := Lib.hid (prow_any n _ x1 W hh b1 hn1 hn2 (by omega))
  have HRR := Lib.hid (fun w he => rrow_any n (.slice A1 x1.length c1) x1 w (b1.ext he) hn1 hn2 (by omega))
  have HUN := Lib.hid (fun v w he hv => punrow_any n v x1 x2 w (hh.ext he) hv hn1 hn2 (by omega))
  have HSA := Lib.hid (fun v v' w h h' => same_any v v' (rowL n x1) w h h' (rowL_one n x1 hl))
  have HRL : Hid ((rowL n x1).length = pages x1.length) := Lib.hid (rowL_len n x1)
  have hp5 : Hid (pages x1.length ≤ 5001) := Lib.hid (by have := pages_le x1.length; omega)
  have d1 : decide ((5000 : Int) < (x1.length : Int)) = false := decide_eq_false (by omega)
  have g1 : ¬ (5000 : Int) < (x1.length : Int) := by omega
  have d3 : decide ((10 : Int) < (x2.length : Int)) = false := decide_eq_false (by omega)
  have d4 : decide ((n : Int) < 1) = false := decide_eq_false (by omega)
  have d5 : decide (4611686018427387903 - (x1.length : Int) / 42 < (n : Int)) = false := decide_eq_false (by omega)
  have d6 : decide ((65536 : Int) < (x1.length : Int)) = false := decide_eq_false (by omega)
  have hl5 : (x1.length : Int) ≤ 5000 := by omega
  have hx10 : Hid (x2.length ≤ 10) := Lib.hid h2
  have hq := bs_eq x1
  clear hh b1 b2 hn2 hd hl h2
  go_enter Tryd.func4, Tryd.ntmps4
  go_upto_region 4 with (go_at_call 13; refine HPR.out.mono ?_; rintro e w1 ⟨u1, us1, rfl, ho1, he1⟩; have HE1 := Lib.hid he1; obtain ⟨Ar, cr, hfr⟩ := (Rwo.rbb ho1).form; have HO1 := Lib.hid ho1; clear ho1 he1; subst hfr)
  go_upto_region 10 with (go_at_call 7; refine (HV.out _ HE1.out).mono ?_; rintro e w2 ⟨rfl, he2⟩; have HE2 := Lib.hid he2; clear he2)
  have hrd1 : Rd w1 1 (.slice Ar (rowL n x1).length cr) (rowL n x1).length us1 := by
    have := Rd.of_own HO1.out.own
    rwa [List.length_map] at this
  have HRD1 := Lib.hid (hrd1.ext HE2.out)
  have HAT1 := Lib.hid (fun k hk => by obtain ⟨x, hx, hr, _⟩ := HO1.out.at_ k hk; exact (⟨x, hx, hr⟩ : ∃ x, us1[k]? = some x ∧ Rd w1 1 x ((rowL n x1).map byteRow)[k].1 ((rowL n x1).map byteRow)[k].2))
  have H1C := Lib.hid HO1.out.one_cell
  obtain ⟨us2, hrd2, hat2⟩ := HB2.out
  rw [List.length_map] at hrd2
  have HRD2 := Lib.hid (hrd2.ext (HE1.out.trans HE2.out))
  have HAT2 := Lib.hid hat2
  have h2C := Lib.hid (Rws.one_cell hat2 (by have := hrd2.lenX; rw [List.length_map]; omega))
  have hown0 : (w2.alloc (.cells #[] 22)).ownsRow w2.heap.size 22 1 (.slice (some ⟨w2.heap.size, 0, none⟩) 0 0) 0 [] := World.ownsRow_lit w2 #[] 0 (Nat.le_refl _) (by unfold maxLen; omega) rfl
  have HOWN0 := Lib.hid hown0
  have HLE : Hid ((rowL n x1).length ≤ 5001) := Lib.hid (by rw [HRL.out]; exact hp5.out)
  have hpe : ((pages x1.length : Nat) : Int) = ((rowL n x1).length : Int) := by rw [HRL.out]
  have hpe2 : (((pages x1.length : Nat) : Int) == ((rowL n x1).length : Int)) = true := by rw [HRL.out]; simp
  have HPE := Lib.hid hpe2
  clear hrd1 hrd2 hat2 hown0 hpe hpe2
  go_upto_region 11 with (first
    | (refine wpList_app rfl elemS _ (.tmp 83) (.tmp 84) rfl w2.heap.size _ 0 [] rfl HOWN0.out _ (rowL n x1).length us1 rfl (HRD1.out.ext ((Ext.refl _).alloc _)) H1C.out (by have := HLE.out; omega) (by have := HLE.out; unfold maxLen; omega) (by simp) ?_; intro v3 w3 ha3; have ho3 := ha3.own; rw [Nat.zero_add, List.nil_append] at ho3; have HO3 := Lib.hid ho3; have HE3 := Lib.hid (ha3.ext ((Ext.refl _).alloc _) rfl HOWN0.out); clear ha3 ho3)
    | (refine wpList_app rfl elemS _ (.tmp 85) (.tmp 86) rfl w2.heap.size _ (rowL n x1).length us1 rfl HO3.out _ x2.length us2 rfl (HRD2.out.ext HE3.out) h2C.out (by have := HLE.out; have := hx10.out; omega) (by have := HLE.out; have := hx10.out; unfold maxLen; omega) HE3.out.size ?_; intro v4 w4 ha4; have HE4 := Lib.hid (ha4.ext HE3.out rfl HO3.out); have HA4 := Lib.hid ha4; clear ha4)
    | (go_at_call 16; refine (HUN.out _ _ (HE1.out.trans (HE2.out.trans HE4.out)) (by
        have h5 := HE1.out.trans (HE2.out.trans HE4.out)
        have h6 := HE2.out.trans HE4.out
        have := rows_app (r1 := (rowL n x1).map byteRow) (r2 := x2.map byteRow) (by rw [List.length_map]; exact HO3.out) (fun k hk => by obtain ⟨x, hx, hr⟩ := HAT1.out k hk; exact ⟨x, hx, hr.ext h6⟩) (fun k hk => by obtain ⟨x, hx, hr⟩ := HAT2.out k hk; exact ⟨x, hx, hr.ext h5⟩) (by rw [List.length_map, List.length_map]; exact HA4.out)
        unfold RBB
        rw [List.map_append]
        exact this)).mono ?_; rintro e w5 ⟨u5, rfl, hr5, he5⟩; obtain ⟨A5, c5, rfl⟩ := hr5.form; have HR5 := Lib.hid hr5; have HE5 := Lib.hid he5; clear hr5 he5))
  have HXX := Lib.hid ((HE1.out.trans (HE2.out.trans HE4.out)).trans HE5.out)
  have HRB := Lib.hid ((Rwo.rbb HO1.out).ext ((HE2.out.trans HE4.out).trans HE5.out))
  have hpe2 := HPE.out
  go_wp2_with (first
    | (go_at_call 15; refine (HRR.out _ HXX.out).mono ?_; rintro e w6 ⟨u6, us6, rfl, ho6, he6⟩; obtain ⟨A6, c6, hf6⟩ := (Rwo.rbb ho6).form; have HO6 := Lib.hid (Rwo.rbb ho6); have HE6 := Lib.hid he6; clear ho6 he6; subst hf6)
    | (go_at_call 14; refine (HSA.out _ _ _ (HRB.out.ext HE6.out) HO6.out).mono ?_; rintro e w7 ⟨rfl, he7⟩; have HE7 := Lib.hid he7; have hs1 := strB (HR5.out.ext (HE6.out.trans he7)); have hs2 := strB (HB1.out.ext (HXX.out.trans (HE6.out.trans he7))); clear he7))
  go_ret
  exact ⟨rfl, HXX.out.trans (HE6.out.trans HE7.out)⟩

set_option maxRecDepth 100000 in
set_option maxHeartbeats 2000000 in
theorem rows_over (W : World) (hh : Halves W) (n : Nat) (v1 : Value) (x1 : List UInt8) (b1 : RB W v1 x1) (v2 : Value) (x2 : List (List UInt8)) (b2 : RBB W v2 x2) (hl : x1.length ≤ 5000) (h2 : x2.length ≤ 10) (hn1 : 1 ≤ n) (hn2 : n + pages x1.length ≤ 4611686018427387904)
    (hd : 4611686018427387903 - (x1.length : Int) / 42 < (n : Int)) : RowsGoal W n v1 v2 := by
  unfold RowsGoal
  obtain ⟨A1, c1, rfl⟩ := b1.form
  obtain ⟨A2, c2, rfl⟩ := b2.form
  have HV := Lib.hid (fun (w : World) (he : Ext W w) => plives_any w (hh.ext he))
  have HPR := Lib.hid (prow_any n _ x1 W hh b1 hn1 hn2 (by omega))
  have HRR := Lib.hid (fun w he => rrow_any n (.slice A1 x1.length c1) x1 w (b1.ext he) hn1 hn2 (by omega))
  have HSA := Lib.hid (fun v v' w h h' => same_any v v' (rowL n x1) w h h' (rowL_one n x1 hl))
  have d1 : decide ((5000 : Int) < (x1.length : Int)) = false := decide_eq_false (by omega)
  have g1 : ¬ (5000 : Int) < (x1.length : Int) := by omega
  have d3 : decide ((10 : Int) < (x2.length : Int)) = false := decide_eq_false (by omega)
  have d4 : decide ((n : Int) < 1) = false := decide_eq_false (by omega)
  have d5 : decide (4611686018427387903 - (x1.length : Int) / 42 < (n : Int)) = true := decide_eq_true hd
  have d7 : decide ((1 : Int) ≤ (n : Int)) = true := decide_eq_true (by omega)
  have d8 : decide ((n : Int) ≤ 4611686018427387903) = true := decide_eq_true (by have := pages_pos x1.length; omega)
  have hl5 : (x1.length : Int) ≤ 5000 := by omega
  clear hh b1 b2 hn2 hd hl h2 hn1
  go_enter Tryd.func4, Tryd.ntmps4
  go_upto_region 4 with (go_at_call 13; refine HPR.out.mono ?_; rintro e w1 ⟨u1, us1, rfl, ho1, he1⟩; have HE1 := Lib.hid he1; obtain ⟨Ar, cr, hfr⟩ := (Rwo.rbb ho1).form; have HO1 := Lib.hid (Rwo.rbb ho1); clear ho1 he1; subst hfr)
  go_wp2_with (first
    | (go_at_call 7; refine (HV.out _ HE1.out).mono ?_; rintro e w2 ⟨rfl, he2⟩; have HE2 := Lib.hid he2; clear he2)
    | (go_at_call 15; refine (HRR.out _ (HE1.out.trans HE2.out)).mono ?_; rintro e w6 ⟨u6, us6, rfl, ho6, he6⟩; obtain ⟨A6, c6, hf6⟩ := (Rwo.rbb ho6).form; have HO6 := Lib.hid (Rwo.rbb ho6); have HE6 := Lib.hid he6; clear ho6 he6; subst hf6)
    | (go_at_call 14; refine (HSA.out _ _ _ (HO1.out.ext (HE2.out.trans HE6.out)) HO6.out).mono ?_; rintro e w7 ⟨rfl, he7⟩; have HE7 := Lib.hid he7; clear he7))
  go_ret
  exact ⟨rfl, HE1.out.trans (HE2.out.trans (HE6.out.trans HE7.out))⟩

set_option maxRecDepth 100000 in
set_option maxHeartbeats 1000000 in
theorem rows_long (W : World) (hh : Halves W) (x0 : Int) (v1 : Value) (x1 : List UInt8) (s1 : x1.length ≤ 140737488351232) (b1 : RB W v1 x1) (v2 : Value) (x2 : List (List UInt8)) (b2 : RBB W v2 x2) (hl : 65536 < x1.length) (h2 : x2.length ≤ 10) (hn1 : 1 ≤ x0)
    (hd : x0 ≤ 4611686018427387903 - (x1.length : Int) / 42) (hr : Calls Tryd.prog 13 #[.int .i64 x0, v1] W fun e w' => e = .returned (.tuple #[.slice none 0 0, .int .i64 3]) ∧ W = w') : RowsGoal W x0 v1 v2 := by
  unfold RowsGoal
  obtain ⟨A1, c1, rfl⟩ := b1.form
  obtain ⟨A2, c2, rfl⟩ := b2.form
  have HV := Lib.hid (fun (w : World) (he : Ext W w) => plives_any w (hh.ext he))
  have HR := Lib.hid hr
  have d1 : decide ((5000 : Int) < (x1.length : Int)) = true := decide_eq_true (by omega)
  have d2 : decide ((x1.length : Int) ≤ 65536) = false := decide_eq_false (by omega)
  have d3 : decide ((10 : Int) < (x2.length : Int)) = false := decide_eq_false (by omega)
  have d4 : decide (x0 < 1) = false := decide_eq_false (by omega)
  have d5 : decide (4611686018427387903 - (x1.length : Int) / 42 < x0) = false := decide_eq_false (by omega)
  have g6 : (65536 : Int) < (x1.length : Int) := by omega
  clear hh b1 b2 hd hl h2 hn1 hr
  go_enter Tryd.func4, Tryd.ntmps4
  go_wp2_with (first
    | (go_at_call 13; refine HR.out.mono ?_; rintro e w' ⟨rfl, rfl⟩)
    | (go_at_call 7; refine (HV.out _ (Ext.refl _)).mono ?_; rintro e w1 ⟨rfl, he1⟩))
  go_ret
  exact ⟨rfl, he1⟩

theorem pageRows_law (W : World) (hh : Halves W) (x0 : Int) (_b0 : -9223372036854775808 ≤ x0 ∧ x0 ≤ 9223372036854775807) (v1 : Value) (x1 : List UInt8) (b1 : RB W v1 x1) (s1 : x1.length ≤ 140737488351232) (v2 : Value) (x2 : List (List UInt8)) (b2 : RBB W v2 x2) :
    Calls Tryd.prog 4 #[.int .i64 x0, v1, v2] W fun e w' => e = .returned (.bool true) ∧ Ext W w' := by
  show RowsGoal W x0 v1 v2
  obtain ⟨A1, c1, hf⟩ := b1.form
  by_cases h1 : 5000 < x1.length ∧ x1.length ≤ 65536
  · exact rows_skip1 W hh x0 v1 x1 b1 v2 x2 b2 h1.1 h1.2
  by_cases h2 : 10 < x2.length
  · exact rows_skip2 W hh x0 v1 x1 b1 v2 x2 b2 h1 h2
  have hpg := pages_go2 x1.length
  have hpp := pages_pos x1.length
  by_cases h3 : x0 < 1
  · exact rows_no W hh x0 v1 x1 s1 b1 v2 x2 b2 h1 h2 1 rfl (prow_arg x0 v1 A1 _ c1 W hf (.inl (fun h => by have := h.1; omega)) (by omega)) (.inl h3)
  by_cases h4 : 4611686018427387903 - (pages x1.length : Int) + 1 < x0
  · exact rows_no W hh x0 v1 x1 s1 b1 v2 x2 b2 h1 h2 1 rfl (prow_arg x0 v1 A1 _ c1 W hf (.inr h4) (by omega)) (.inr ⟨by omega, by omega⟩)
  have hmay : TagMay x0 := ⟨by omega, by omega⟩
  by_cases h5 : 65536 < x1.length
  · have hl := prow_long x0 v1 A1 _ c1 W hf hmay (by omega) (by omega) h5
    by_cases h6 : 4611686018427387903 - (x1.length : Int) / 42 < x0
    · exact rows_no W hh x0 v1 x1 s1 b1 v2 x2 b2 h1 h2 3 rfl hl (.inr ⟨by omega, h6⟩)
    · exact rows_long W hh x0 v1 x1 s1 b1 v2 x2 b2 h5 (by omega) (by omega) (by omega) hl
  obtain ⟨n, rfl⟩ : ∃ n : Nat, x0 = n := ⟨x0.toNat, by omega⟩
  by_cases h6 : 4611686018427387903 - (x1.length : Int) / 42 < (n : Int)
  · exact rows_over W hh n v1 x1 b1 v2 x2 b2 (by omega) (by omega) (by omega) (by omega) h6
  · exact rows_yes W hh n v1 x1 b1 v2 x2 b2 (by omega) (by omega) (by omega) (by omega) (by omega)

section
open Go.ChangeShapes Go.WideShapes Go.ChangeAt
theorem rowsArg {H : Type} {enc : TypeId × Value → H} {W : World} {r : Reach} {b0 base : Nat} {v : Value} {d : DataW H} {p : List MemPlace}
    (hv : Value.okWide Tryd.prog W r b0 33 v) (h : DataW.Trod enc Tryd.prog W base (fun _ => true) true 33 v d p) : ∃ ls : List (List UInt8), RBB W v ls :=
  rbb_of_trod Tryd.underlying33 Tryd.underlying22 Tryd.underlying5 (by kernel_rfl) (by kernel_rfl) hv h
end
end Go.Proofs.YtklnbmcfnnmliaaDoor
