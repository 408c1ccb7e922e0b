/-
  The statements' own functions of layer 6: a torn page: arguments that are not looked at.
-/
import Derived.Test.YtklnbmcfnnmliaaDoorPage6
namespace Go.Proofs.YtklnbmcfnnmliaaDoor
open Go.RowKit Go.Ox
attribute [local irreducible] OB RB

set_option maxRecDepth 100000 in
set_option maxHeartbeats 1000000 in
theorem torn_1 (W : World) (hh : Halves W) (x0 : Int) (v1 : Value) (x1 : List UInt8) (b1 : RB W v1 x1) (x2 : Int) (v3 : Value) (x3 : List UInt8) (b3 : RB W v3 x3) (x4 : Int) (h1 : 43 < x1.length) :
    Calls Tryd.prog 5 #[.int .i64 x0, v1, .int .i64 x2, v3, .int .i64 x4] W fun e w' => e = .returned (.bool true) ∧ Ext W w' := by
  obtain ⟨A1, c1, rfl⟩ := b1.form
  obtain ⟨A3, c3, rfl⟩ := b3.form
  have HV := Lib.hid (fun (w : World) (he : Ext W w) => plives_any w (hh.ext he))
  have g1 : (43 : Int) < (x1.length : Int) := by omega
  clear hh b1 b3 h1
  go_enter Tryd.func5, Tryd.ntmps5
  go_wp2_with (go_at_call 7; refine (HV.out _ (Ext.refl _)).mono ?_; rintro e w1 ⟨rfl, he1⟩)
  go_ret
  exact ⟨rfl, he1⟩
set_option maxRecDepth 100000 in
set_option maxHeartbeats 1000000 in
theorem torn_2 (W : World) (hh : Halves W) (x0 : Int) (v1 : Value) (x1 : List UInt8) (b1 : RB W v1 x1) (x2 : Int) (v3 : Value) (x3 : List UInt8) (b3 : RB W v3 x3) (x4 : Int) (h1 : ¬ 43 < x1.length) (h3 : 43 < x3.length) :
    Calls Tryd.prog 5 #[.int .i64 x0, v1, .int .i64 x2, v3, .int .i64 x4] W fun e w' => e = .returned (.bool true) ∧ Ext W w' := by
  obtain ⟨A1, c1, rfl⟩ := b1.form
  obtain ⟨A3, c3, rfl⟩ := b3.form
  have HV := Lib.hid (fun (w : World) (he : Ext W w) => plives_any w (hh.ext he))
  have g1 : ¬ (43 : Int) < (x1.length : Int) := by omega
  have d1 : decide ((43 : Int) < (x1.length : Int)) = false := decide_eq_false g1
  have g3 : (43 : Int) < (x3.length : Int) := by omega
  have d3 : decide ((43 : Int) < (x3.length : Int)) = true := decide_eq_true g3
  clear hh b1 b3 h1 h3
  go_enter Tryd.func5, Tryd.ntmps5
  go_wp2_with (go_at_call 7; refine (HV.out _ (Ext.refl _)).mono ?_; rintro e w1 ⟨rfl, he1⟩)
  go_ret
  exact ⟨rfl, he1⟩
set_option maxRecDepth 100000 in
set_option maxHeartbeats 1000000 in
theorem torn_3 (W : World) (hh : Halves W) (x0 : Int) (v1 : Value) (x1 : List UInt8) (b1 : RB W v1 x1) (x2 : Int) (v3 : Value) (x3 : List UInt8) (b3 : RB W v3 x3) (x4 : Int) (h1 : ¬ 43 < x1.length) (h3 : ¬ 43 < x3.length) (hx0 : ¬ TagMay x0) :
    Calls Tryd.prog 5 #[.int .i64 x0, v1, .int .i64 x2, v3, .int .i64 x4] W fun e w' => e = .returned (.bool true) ∧ Ext W w' := by
  obtain ⟨A1, c1, rfl⟩ := b1.form
  obtain ⟨A3, c3, rfl⟩ := b3.form
  have HV := Lib.hid (fun (w : World) (he : Ext W w) => plives_any w (hh.ext he))
  have g1 : ¬ (43 : Int) < (x1.length : Int) := by omega
  have d1 : decide ((43 : Int) < (x1.length : Int)) = false := decide_eq_false g1
  have g3 : ¬ (43 : Int) < (x3.length : Int) := by omega
  have d3 : decide ((43 : Int) < (x3.length : Int)) = false := decide_eq_false g3
  have Hx0 := Lib.hid (fun w => rmay_no x0 w hx0)
  clear hx0
  clear hh b1 b3 h1 h3
  go_enter Tryd.func5, Tryd.ntmps5
  go_wp2_with (first
    | (go_at_call 9; (with_reducible refine (Hx0.out _).mono ?_); rintro e w' ⟨rfl, rfl⟩)
    | (go_at_call 7; refine (HV.out _ (Ext.refl _)).mono ?_; rintro e w1 ⟨rfl, he1⟩))
  go_ret
  exact ⟨rfl, he1⟩
set_option maxRecDepth 100000 in
set_option maxHeartbeats 1000000 in
theorem torn_4 (W : World) (hh : Halves W) (x0 : Int) (v1 : Value) (x1 : List UInt8) (b1 : RB W v1 x1) (x2 : Int) (v3 : Value) (x3 : List UInt8) (b3 : RB W v3 x3) (x4 : Int) (h1 : ¬ 43 < x1.length) (h3 : ¬ 43 < x3.length) (hx0 : TagMay x0) (hx2 : ¬ TagMay x2) :
    Calls Tryd.prog 5 #[.int .i64 x0, v1, .int .i64 x2, v3, .int .i64 x4] W fun e w' => e = .returned (.bool true) ∧ Ext W w' := by
  obtain ⟨A1, c1, rfl⟩ := b1.form
  obtain ⟨A3, c3, rfl⟩ := b3.form
  have HV := Lib.hid (fun (w : World) (he : Ext W w) => plives_any w (hh.ext he))
  have g1 : ¬ (43 : Int) < (x1.length : Int) := by omega
  have d1 : decide ((43 : Int) < (x1.length : Int)) = false := decide_eq_false g1
  have g3 : ¬ (43 : Int) < (x3.length : Int) := by omega
  have d3 : decide ((43 : Int) < (x3.length : Int)) = false := decide_eq_false g3
  have Hx0 := Lib.hid (fun w => rmay_yes x0 w hx0)
  clear hx0
  have Hx2 := Lib.hid (fun w => rmay_no x2 w hx2)
  clear hx2
  clear hh b1 b3 h1 h3
  go_enter Tryd.func5, Tryd.ntmps5
  go_wp2_with (first
    | (go_at_call 9; (with_reducible refine (Hx0.out _).mono ?_); rintro e w' ⟨rfl, rfl⟩)
    | (go_at_call 9; (with_reducible refine (Hx2.out _).mono ?_); rintro e w' ⟨rfl, rfl⟩)
    | (go_at_call 7; refine (HV.out _ (Ext.refl _)).mono ?_; rintro e w1 ⟨rfl, he1⟩))
  go_ret
  exact ⟨rfl, he1⟩
set_option maxRecDepth 100000 in
set_option maxHeartbeats 1000000 in
theorem torn_5 (W : World) (hh : Halves W) (x0 : Int) (v1 : Value) (x1 : List UInt8) (b1 : RB W v1 x1) (x2 : Int) (v3 : Value) (x3 : List UInt8) (b3 : RB W v3 x3) (x4 : Int) (h1 : ¬ 43 < x1.length) (h3 : ¬ 43 < x3.length) (hx0 : TagMay x0) (hx2 : TagMay x2) (he : x0 = x2) :
    Calls Tryd.prog 5 #[.int .i64 x0, v1, .int .i64 x2, v3, .int .i64 x4] W fun e w' => e = .returned (.bool true) ∧ Ext W w' := by
  obtain ⟨A1, c1, rfl⟩ := b1.form
  obtain ⟨A3, c3, rfl⟩ := b3.form
  have HV := Lib.hid (fun (w : World) (he : Ext W w) => plives_any w (hh.ext he))
  have g1 : ¬ (43 : Int) < (x1.length : Int) := by omega
  have d1 : decide ((43 : Int) < (x1.length : Int)) = false := decide_eq_false g1
  have g3 : ¬ (43 : Int) < (x3.length : Int) := by omega
  have d3 : decide ((43 : Int) < (x3.length : Int)) = false := decide_eq_false g3
  have Hx0 := Lib.hid (fun w => rmay_yes x0 w hx0)
  clear hx0
  have Hx2 := Lib.hid (fun w => rmay_yes x2 w hx2)
  clear hx2
  have d5 : (x0 == x2) = true := by simpa using he
  clear he
  clear hh b1 b3 h1 h3
  go_enter Tryd.func5, Tryd.ntmps5
  go_wp2_with (first
    | (go_at_call 9; (with_reducible refine (Hx0.out _).mono ?_); rintro e w' ⟨rfl, rfl⟩)
    | (go_at_call 9; (with_reducible refine (Hx2.out _).mono ?_); rintro e w' ⟨rfl, rfl⟩)
    | (go_at_call 7; refine (HV.out _ (Ext.refl _)).mono ?_; rintro e w1 ⟨rfl, he1⟩))
  go_ret
  exact ⟨rfl, he1⟩
set_option maxRecDepth 100000 in
set_option maxHeartbeats 1000000 in
theorem torn_6 (W : World) (hh : Halves W) (x0 : Int) (v1 : Value) (x1 : List UInt8) (b1 : RB W v1 x1) (x2 : Int) (v3 : Value) (x3 : List UInt8) (b3 : RB W v3 x3) (x4 : Int) (h1 : ¬ 43 < x1.length) (h3 : ¬ 43 < x3.length) (hx0 : TagMay x0) (hx2 : TagMay x2) (he : ¬ x0 = x2) (h4 : x4 < 0) :
    Calls Tryd.prog 5 #[.int .i64 x0, v1, .int .i64 x2, v3, .int .i64 x4] W fun e w' => e = .returned (.bool true) ∧ Ext W w' := by
  obtain ⟨A1, c1, rfl⟩ := b1.form
  obtain ⟨A3, c3, rfl⟩ := b3.form
  have HV := Lib.hid (fun (w : World) (he : Ext W w) => plives_any w (hh.ext he))
  have g1 : ¬ (43 : Int) < (x1.length : Int) := by omega
  have d1 : decide ((43 : Int) < (x1.length : Int)) = false := decide_eq_false g1
  have g3 : ¬ (43 : Int) < (x3.length : Int) := by omega
  have d3 : decide ((43 : Int) < (x3.length : Int)) = false := decide_eq_false g3
  have Hx0 := Lib.hid (fun w => rmay_yes x0 w hx0)
  clear hx0
  have Hx2 := Lib.hid (fun w => rmay_yes x2 w hx2)
  clear hx2
  have d5 : (x0 == x2) = false := by simpa using he
  have d4 : decide (x4 < 0) = true := decide_eq_true h4
  clear he
  clear hh b1 b3 h1 h3
  go_enter Tryd.func5, Tryd.ntmps5
  go_wp2_with (first
    | (go_at_call 9; (with_reducible refine (Hx0.out _).mono ?_); rintro e w' ⟨rfl, rfl⟩)
    | (go_at_call 9; (with_reducible refine (Hx2.out _).mono ?_); rintro e w' ⟨rfl, rfl⟩)
    | (go_at_call 7; refine (HV.out _ (Ext.refl _)).mono ?_; rintro e w1 ⟨rfl, he1⟩))
  go_ret
  exact ⟨rfl, he1⟩
set_option maxRecDepth 100000 in
set_option maxHeartbeats 1000000 in
theorem torn_7 (W : World) (hh : Halves W) (x0 : Int) (v1 : Value) (x1 : List UInt8) (b1 : RB W v1 x1) (x2 : Int) (v3 : Value) (x3 : List UInt8) (b3 : RB W v3 x3) (x4 : Int) (h1 : ¬ 43 < x1.length) (h3 : ¬ 43 < x3.length) (hx0 : TagMay x0) (hx2 : TagMay x2) (he : ¬ x0 = x2) (h4 : ¬ x4 < 0) (h6 : 64 < x4) :
    Calls Tryd.prog 5 #[.int .i64 x0, v1, .int .i64 x2, v3, .int .i64 x4] W fun e w' => e = .returned (.bool true) ∧ Ext W w' := by
  obtain ⟨A1, c1, rfl⟩ := b1.form
  obtain ⟨A3, c3, rfl⟩ := b3.form
  have HV := Lib.hid (fun (w : World) (he : Ext W w) => plives_any w (hh.ext he))
  have g1 : ¬ (43 : Int) < (x1.length : Int) := by omega
  have d1 : decide ((43 : Int) < (x1.length : Int)) = false := decide_eq_false g1
  have g3 : ¬ (43 : Int) < (x3.length : Int) := by omega
  have d3 : decide ((43 : Int) < (x3.length : Int)) = false := decide_eq_false g3
  have Hx0 := Lib.hid (fun w => rmay_yes x0 w hx0)
  clear hx0
  have Hx2 := Lib.hid (fun w => rmay_yes x2 w hx2)
  clear hx2
  have d5 : (x0 == x2) = false := by simpa using he
  have d4 : decide (x4 < 0) = false := decide_eq_false h4
  have d6 : decide (64 < x4) = true := decide_eq_true h6
  clear he
  clear hh b1 b3 h1 h3
  go_enter Tryd.func5, Tryd.ntmps5
  go_wp2_with (first
    | (go_at_call 9; (with_reducible refine (Hx0.out _).mono ?_); rintro e w' ⟨rfl, rfl⟩)
    | (go_at_call 9; (with_reducible refine (Hx2.out _).mono ?_); rintro e w' ⟨rfl, rfl⟩)
    | (go_at_call 7; refine (HV.out _ (Ext.refl _)).mono ?_; rintro e w1 ⟨rfl, he1⟩))
  go_ret
  exact ⟨rfl, he1⟩
end Go.Proofs.YtklnbmcfnnmliaaDoor
