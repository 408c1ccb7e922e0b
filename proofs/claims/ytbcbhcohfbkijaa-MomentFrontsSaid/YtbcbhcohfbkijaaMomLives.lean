/-
  The statements of layer 4: what must come of every program.
-/
import Derived.Test.YtbcbhcohfbkijaaMomFront
import Derived.Test.YtbcbhcohfbkijaaMomThen
import Derived.Test.YtbcbhcohfbkijaaMomPut
namespace Go.Proofs.Ytbcbhcohfbkijaa
open Go.RowKit Go.Ox Go.Shelf
attribute [local irreducible] OP RP OB RB
set_option linter.unusedSimpArgs false
set_option linter.unusedVariables false

/-- what the front of any moments is -/
def FrontR (l : List Mom.M) (w : World) (e : Ending) (w' : World) : Prop :=
  Ext w w' ∧
    ((256 < (Mom.rfront l).length ∧ e = .returned (.tuple #[.slice none 0 0, .int .i64 31])) ∨
     ((Mom.rfront l).length ≤ 256 ∧ ∃ v, e = .returned (.tuple #[v, .int .i64 0]) ∧ OP 23 w.heap.size w' v (Mom.rfront l)))
theorem front_good (v : Value) (l : List Mom.M) (w : World) (hv : RP w v l) (hl : l.length ≤ 1000000) (hb : (l.any fun x => !Mom.ok x) = false) :
    Calls Try.prog 20 #[v] w (FrontR l w) := by
  refine (front_ok v l w hv hl hb).mono ?_
  rintro e w' ⟨s, hp, hs, hx, h⟩
  rw [Mom.front_eq hs (fun k => (hp.mem_iff).symm)] at h
  exact ⟨hx, h⟩
theorem live_front : Mom.rfront [(2, 4), (2, 1), (1, 3)] = [(1, 3), (2, 1)] := by decide +kernel
theorem live_then : thenW (true, 1) (false, 2) = ((true, 3), 0) := by decide +kernel
theorem live_walk : walkM (false, 2) (1, 3) = ((1, 5), 0) := by decide +kernel
theorem live_walk2 : walkM (false, -1) (1, 3) = ((0, 0), 1) := by decide +kernel

/-- the boxes of 'lives' -/
structure Lv (w : World) (n p q : Nat) : Prop where
  f : F3 w n 23 23 23 (.int .i64 1) (.int .i64 3) (.int .i64 2) (.int .i64 1) (.int .i64 2) (.int .i64 4)
  p6 : Blk w p 23 #[.int .i64 1, .int .i64 5]
  p8 : Blk w q 41 #[.bool true, .int .i64 3]
theorem Lv.ext {w w' : World} {n p q : Nat} (h : Lv w n p q) (he : Ext w w') : Lv w' n p q := ⟨h.f.ext he, h.p6.ext he, h.p8.ext he⟩
theorem Lv.cells {w : World} {n p q : Nat} (h : Lv w n p q) : w.cell? ⟨n, 0, none⟩ = some (.int .i64 1) ∧ w.cell? ⟨n, 1, none⟩ = some (.int .i64 3) ∧ w.cell? ⟨n + 1, 0, none⟩ = some (.int .i64 2) ∧ w.cell? ⟨n + 1, 1, none⟩ = some (.int .i64 1) ∧
    w.cell? ⟨n + 1 + 1, 0, none⟩ = some (.int .i64 2) ∧ w.cell? ⟨n + 1 + 1, 1, none⟩ = some (.int .i64 4) ∧ w.cell? ⟨p, 0, none⟩ = some (.int .i64 1) ∧ w.cell? ⟨p, 1, none⟩ = some (.int .i64 5) ∧ w.cell? ⟨q, 0, none⟩ = some (.bool true) ∧ w.cell? ⟨q, 1, none⟩ = some (.int .i64 3) :=
  ⟨h.f.cells.1, h.f.cells.2.1, h.f.cells.2.2.1, h.f.cells.2.2.2.1, h.f.cells.2.2.2.2.1, h.f.cells.2.2.2.2.2, h.p6.cell 0, h.p6.cell 1, h.p8.cell 0, h.p8.cell 1⟩
def wayB (a b : Bool) (c d : Int) : Bool := decide ((a, c) = (b, d))
theorem eqInW (a b : Bool) (c d : Int) (w : World) : (Op.equalIn 10000 41 (.agg #[.bool a, .int .i64 c]) (.agg #[.bool b, .int .i64 d])).run Try.prog w = .ok (wayB a b c d) w := by
  have u3 := Try.underlying3
  have a3 := Try.isAgg3
  have z3 := Try.sizeOf3
  have u4 := Try.underlying4
  have a4 := Try.isAgg4
  have z4 := Try.sizeOf4
  have hS : Try.prog.underlying 41 = some (.struct (Try.prog.fieldsOf 41)) := by kernel_rfl
  have hp : Try.prog.stoodInHeld 41 = false := by kernel_rfl
  rw [show (10000 : Nat) = 9999 + 1 from rfl, run_equalIn_agg w 9999 41 _ _ hS hp]
  simp only [Program.fieldsOf, Try.underlying41]
  have e : wayB a b c d = ((a == b) && (c == d)) := by unfold wayB; rw [Bool.eq_iff_iff]; simp
  rw [e]
  go_simp
  by_cases h1 : a = b <;> by_cases h2 : c = d <;> simp [h1, h2]
theorem eqW (a b : Bool) (c d : Int) (w : World) : (binOp .eql 41 (.agg #[.bool a, .int .i64 c]) (.agg #[.bool b, .int .i64 d])).run Try.prog w = .ok (.bool (wayB a b c d)) w := by
  rw [run_eql_struct, eqInW]; rfl
theorem neW (a b : Bool) (c d : Int) (w : World) : (binOp .neq 41 (.agg #[.bool a, .int .i64 c]) (.agg #[.bool b, .int .i64 d])).run Try.prog w = .ok (.bool (!wayB a b c d)) w := by
  rw [run_neq_struct, eqInW]; rfl
theorem guardW : Try.prog.eqGuardType Try.prog.depth 41 = false := by kernel_rfl
theorem live_put : (Num.put 1 ++ Num.put 3).length = 2 := by
  rw [List.length_append, Num.put_len, Num.put_len]; rfl
theorem live_wayB : wayB true true 3 3 = true := by decide +kernel
theorem live_b1 : pairB 1 5 1 5 = true := by decide +kernel
theorem live_b2 : pairB 2 3 2 3 = true := by decide +kernel
theorem live_b3 : pairB 1 1 1 1 = true := by decide +kernel

theorem live_lit (w : World) : RP (w.alloc (.cells #[.int .i64 2, .int .i64 4, .int .i64 2, .int .i64 1, .int .i64 1, .int .i64 3] 23)) (.slice (some ⟨w.heap.size, 0, none⟩) 3 3) [(2, 4), (2, 1), (1, 3)] :=
  RP.lit w _ _ 3 _ rfl (by omega) rfl
theorem live_call (w : World) (n : Nat) (hn : n = w.heap.size) : Calls Try.prog 20 #[.slice (some ⟨n, 0, none⟩) 3 3] (w.alloc (.cells #[.int .i64 2, .int .i64 4, .int .i64 2, .int .i64 1, .int .i64 1, .int .i64 3] 23)) fun e w' =>
    Ext w w' ∧ ∃ v, e = .returned (.tuple #[v, .int .i64 0]) ∧ RP w' v [(1, 3), (2, 1)] := by
  subst hn
  refine (front_good _ [(2, 4), (2, 1), (1, 3)] _ (live_lit w) (by decide) (by decide +kernel)).mono ?_
  rintro e w1 ⟨he1, h⟩
  rw [live_front] at h
  rcases h with ⟨hlt, _⟩ | ⟨_, v1, rfl, ho1⟩
  · exact absurd hlt (by decide)
  · exact ⟨((Ext.refl w).alloc _).trans he1, v1, rfl, ho1.rp⟩
theorem live_same (v : Value) (w : World) (n : Nat) (hn : n = w.heap.size) (hv : RP w v [(1, 3), (2, 1)]) : Calls Try.prog 25 #[v, .slice (some ⟨n, 0, none⟩) 2 2] (w.alloc (.cells #[.int .i64 1, .int .i64 3, .int .i64 2, .int .i64 1] 23)) fun e w' =>
    e = .returned (.bool true) ∧ Ext w w' := by
  subst hn
  refine (same_any v _ [(1, 3), (2, 1)] [(1, 3), (2, 1)] _ (hv.ext ((Ext.refl _).alloc _)) (RP.lit w _ _ 2 _ rfl (by omega) rfl)).mono ?_
  rintro e w1 ⟨rfl, he1⟩
  exact ⟨by rw [decide_eq_true rfl], ((Ext.refl w).alloc _).trans he1⟩
theorem live_beyond (v : Value) (w : World) (n : Nat) (hn : n = w.heap.size) (hv : RP w v [(1, 3), (2, 1)]) : Calls Try.prog 23 #[.slice (some ⟨n, 0, none⟩) 1 1, v] (w.alloc (.cells #[.int .i64 2, .int .i64 4] 23)) fun e w' =>
    e = .returned (.bool true) ∧ Ext w w' := by
  subst hn
  refine (beyond_any _ v [(2, 4)] [(1, 3), (2, 1)] _ (RP.lit w _ _ 1 _ rfl (by omega) rfl) (hv.ext ((Ext.refl _).alloc _)) (by decide) (by decide)).mono ?_
  rintro e w1 ⟨rfl, he1⟩
  exact ⟨by rw [show ([(2, 4)] : List Mom.M).all (fun m => Mom.covers [(1, 3), (2, 1)] m) = true by decide +kernel], ((Ext.refl w).alloc _).trans he1⟩
theorem live_cov (v : Value) (w : World) (hv : RP w v [(1, 3), (2, 1)]) : Calls Try.prog 21 #[v, mV (2, 4)] w fun e w' => e = .returned (.bool true) ∧ Ext w w' := by
  refine (covers_any v [(1, 3), (2, 1)] (2, 4) w hv (by decide)).mono ?_
  rw [show Mom.covers [(1, 3), (2, 1)] (2, 4) = true by decide +kernel]
  exact fun _ _ h => h
theorem live_cov2 (v : Value) (w : World) (hv : RP w v [(1, 3), (2, 1)]) : Calls Try.prog 21 #[v, mV (0, 0)] w fun e w' => e = .returned (.bool false) ∧ Ext w w' := by
  refine (covers_any v [(1, 3), (2, 1)] (0, 0) w hv (by decide)).mono ?_
  rw [show Mom.covers [(1, 3), (2, 1)] (0, 0) = false by decide +kernel]
  exact fun _ _ h => h
set_option maxRecDepth 100000 in
set_option maxHeartbeats 2000000 in
theorem lives_any (w : World) :
    Calls Try.prog 12 #[] w fun e w' => e = .returned (.bool true) ∧ Ext w w' := by
  have H1 := Lib.hid (fun w => walk_any (false, 2) (1, 3) w)
  have H2 := Lib.hid (fun w => then_any (true, 1) (false, 2) w)
  have H3 := Lib.hid (fun w => mput_any 1 3 w (by omega) (by omega))
  have H4 := Lib.hid (fun w => walk_any (false, -1) (1, 3) w)
  have H5 := Lib.hid (fun w => ahead_any (1, 3) (2, 4) w)
  have H6 := Lib.hid (fun w => ahead_any (1, 3) (2, 1) w)
  have H7 := Lib.hid (fun w => compare_any (1, 3) (2, 1) w)
  have H8 := Lib.hid (fun w => join_any (1, 3) (2, 1) w)
  have H9 := Lib.hid (fun w => meet_any (1, 3) (2, 1) w)
  have H10 := Lib.hid (fun w => check_any (-1, 0) w)
  rw [live_walk] at H1
  rw [live_walk2] at H4
  rw [live_then] at H2
  rw [show Mom.ahead (1, 3) (2, 4) = true by decide +kernel] at H5
  rw [show Mom.ahead (1, 3) (2, 1) = false by decide +kernel] at H6
  rw [show Mom.cmp (1, 3) (2, 1) = -1 by decide +kernel] at H7
  rw [show joinM (1, 3) (2, 1) = (2, 3) by decide +kernel] at H8
  rw [show meetM (1, 3) (2, 1) = (1, 1) by decide +kernel] at H9
  rw [show Mom.ok (-1, 0) = false by decide +kernel, if_neg (by simp)] at H10
  have hE := eqInM
  have hG := guardM
  have hE2 := eqInW
  have hG2 := guardW
  have hb1 := live_b1
  have hb2 := live_b2
  have hb3 := live_b3
  have hb4 := live_wayB
  have HL := Lib.hid live_call
  have HF := Lib.hid (F3.new w 23 23 23 (.int .i64 1) (.int .i64 3) (.int .i64 2) (.int .i64 1) (.int .i64 2) (.int .i64 4))
  have HX := Lib.hid ((((Ext.refl w).alloc (.cells #[.int .i64 1, .int .i64 3] 23)).alloc (.cells #[.int .i64 2, .int .i64 1] 23)).alloc (.cells #[.int .i64 2, .int .i64 4] 23))
  go_enter Try.func12, Try.ntmps12
  go_wp2_with fail
  refine (HL.out _ _ (by simp)).mono ?_
  rintro e w1 ⟨he1, v1, rfl, ho1⟩
  have HF1 := Lib.hid (HF.out.ext he1)
  have HX1 := Lib.hid (HX.out.trans he1)
  have HO1 := Lib.hid ho1
  obtain ⟨A1, k1, rfl⟩ := ho1.form
  clear ho1 he1 HF HX
  obtain ⟨c0, c1, c2, c3, c4, c5⟩ := HF1.out.cells
  go_wp2_with fail
  refine (H1.out _).mono ?_
  rintro e w2 ⟨rfl, he2⟩
  have HF2 := Lib.hid (HF1.out.ext he2)
  have HX2 := Lib.hid (HX1.out.trans he2)
  have HO2 := Lib.hid (HO1.out.ext he2)
  clear he2 HF1 HX1 HO1
  go_wp2_with fail
  refine (H2.out _).mono ?_
  rintro e w3 ⟨rfl, he3⟩
  have HV3 := Lib.hid (Lv.mk ((HF2.out.ext ((Ext.refl _).alloc (.cells #[.int .i64 1, .int .i64 5] 23))).ext (he3.trans ((Ext.refl _).alloc (.cells #[.bool true, .int .i64 3] 41))))
    ((Blk.new w2 23 #[.int .i64 1, .int .i64 5]).ext (he3.trans ((Ext.refl _).alloc (.cells #[.bool true, .int .i64 3] 41)))) (Blk.new w3 41 #[.bool true, .int .i64 3]))
  have HX3 := Lib.hid (((HX2.out.alloc (.cells #[.int .i64 1, .int .i64 5] 23)).trans he3).alloc (.cells #[.bool true, .int .i64 3] 41))
  have HO3 := Lib.hid (HO2.out.ext ((((Ext.refl _).alloc (.cells #[.int .i64 1, .int .i64 5] 23)).trans he3).alloc (.cells #[.bool true, .int .i64 3] 41)))
  clear he3 HF2 HX2 HO2 c0 c1 c2 c3 c4 c5
  obtain ⟨c0, c1, c2, c3, c4, c5, c6, c7, c8, c9⟩ := HV3.out.cells
  go_wp2_with fail
  refine (H3.out _).mono ?_
  rintro e w4 ⟨v4, rfl, ho4, he4⟩
  obtain ⟨A4, k4, rfl⟩ := ho4.form
  rw [live_put]
  have HV4 := Lib.hid (HV3.out.ext he4)
  have HX4 := Lib.hid (HX3.out.trans he4)
  have HO4 := Lib.hid (HO3.out.ext he4)
  clear he4 HV3 HX3 HO3 c0 c1 c2 c3 c4 c5 c6 c7 c8 c9 ho4
  obtain ⟨c0, c1, c2, c3, c4, c5, c6, c7, c8, c9⟩ := HV4.out.cells
  trace "T1"
  go_wp2_with fail
  refine (H4.out _).mono ?_
  rintro e w5 ⟨rfl, he5⟩
  trace "T2"
  have HV5 := Lib.hid (HV4.out.ext (he5.trans ((Ext.refl _).alloc (.cells #[.int .i64 0, .int .i64 0] 23))))
  have HX5 := Lib.hid ((HX4.out.trans he5).alloc (.cells #[.int .i64 0, .int .i64 0] 23))
  have HO5 := Lib.hid (HO4.out.ext (he5.trans ((Ext.refl _).alloc (.cells #[.int .i64 0, .int .i64 0] 23))))
  clear he5 HV4 HX4 HO4 c0 c1 c2 c3 c4 c5 c6 c7 c8 c9
  obtain ⟨c0, c1, c2, c3, c4, c5, c6, c7, c8, c9⟩ := HV5.out.cells
  go_wp2_with fail
  refine (live_same _ _ _ (by simp) HO5.out).mono ?_
  rintro e w6 ⟨rfl, he6⟩
  have HV6 := Lib.hid (HV5.out.ext he6)
  have HX6 := Lib.hid (HX5.out.trans he6)
  have HO6 := Lib.hid (HO5.out.ext he6)
  clear he6 HV5 HX5 HO5 c0 c1 c2 c3 c4 c5 c6 c7 c8 c9
  obtain ⟨c0, c1, c2, c3, c4, c5, c6, c7, c8, c9⟩ := HV6.out.cells
  trace "S6"
  go_wp2_with fail
  refine (H5.out _).mono ?_
  rintro e w7 ⟨rfl, he7⟩
  have HV7 := Lib.hid (HV6.out.ext he7)
  have HX7 := Lib.hid (HX6.out.trans he7)
  have HO7 := Lib.hid (HO6.out.ext he7)
  clear he7 HV6 HX6 HO6 c0 c1 c2 c3 c4 c5 c6 c7 c8 c9
  obtain ⟨c0, c1, c2, c3, c4, c5, c6, c7, c8, c9⟩ := HV7.out.cells
  trace "S7"
  go_wp2_with fail
  refine (H6.out _).mono ?_
  rintro e w8 ⟨rfl, he8⟩
  have HV8 := Lib.hid (HV7.out.ext he8)
  have HX8 := Lib.hid (HX7.out.trans he8)
  have HO8 := Lib.hid (HO7.out.ext he8)
  clear he8 HV7 HX7 HO7 c0 c1 c2 c3 c4 c5 c6 c7 c8 c9
  obtain ⟨c0, c1, c2, c3, c4, c5, c6, c7, c8, c9⟩ := HV8.out.cells
  trace "S8"
  go_wp2_with fail
  refine (H7.out _).mono ?_
  rintro e w9 ⟨rfl, he9⟩
  have HV9 := Lib.hid (HV8.out.ext he9)
  have HX9 := Lib.hid (HX8.out.trans he9)
  have HO9 := Lib.hid (HO8.out.ext he9)
  clear he9 HV8 HX8 HO8 c0 c1 c2 c3 c4 c5 c6 c7 c8 c9
  obtain ⟨c0, c1, c2, c3, c4, c5, c6, c7, c8, c9⟩ := HV9.out.cells
  trace "S9"
  go_wp2_with fail
  refine (H8.out _).mono ?_
  rintro e w10 ⟨rfl, he10⟩
  have HV10 := Lib.hid (HV9.out.ext he10)
  have HX10 := Lib.hid (HX9.out.trans he10)
  have HO10 := Lib.hid (HO9.out.ext he10)
  clear he10 HV9 HX9 HO9 c0 c1 c2 c3 c4 c5 c6 c7 c8 c9
  obtain ⟨c0, c1, c2, c3, c4, c5, c6, c7, c8, c9⟩ := HV10.out.cells
  trace "S10"
  go_wp2_with fail
  refine (H9.out _).mono ?_
  rintro e w11 ⟨rfl, he11⟩
  have HV11 := Lib.hid (HV10.out.ext he11)
  have HX11 := Lib.hid (HX10.out.trans he11)
  have HO11 := Lib.hid (HO10.out.ext he11)
  clear he11 HV10 HX10 HO10 c0 c1 c2 c3 c4 c5 c6 c7 c8 c9
  obtain ⟨c0, c1, c2, c3, c4, c5, c6, c7, c8, c9⟩ := HV11.out.cells
  trace "S11"
  go_wp2_with fail
  refine (live_cov _ _ HO11.out).mono ?_
  rintro e w12 ⟨rfl, he12⟩
  have HV12 := Lib.hid (HV11.out.ext he12)
  have HX12 := Lib.hid (HX11.out.trans he12)
  have HO12 := Lib.hid (HO11.out.ext he12)
  clear he12 HV11 HX11 HO11 c0 c1 c2 c3 c4 c5 c6 c7 c8 c9
  obtain ⟨c0, c1, c2, c3, c4, c5, c6, c7, c8, c9⟩ := HV12.out.cells
  trace "S12"
  go_wp2_with fail
  refine (live_cov2 _ _ HO12.out).mono ?_
  rintro e w13 ⟨rfl, he13⟩
  have HV13 := Lib.hid (HV12.out.ext he13)
  have HX13 := Lib.hid (HX12.out.trans he13)
  have HO13 := Lib.hid (HO12.out.ext he13)
  clear he13 HV12 HX12 HO12 c0 c1 c2 c3 c4 c5 c6 c7 c8 c9
  obtain ⟨c0, c1, c2, c3, c4, c5, c6, c7, c8, c9⟩ := HV13.out.cells
  trace "S13"
  go_wp2_with fail
  refine (live_beyond _ _ _ (by simp) HO13.out).mono ?_
  rintro e w14 ⟨rfl, he14⟩
  have HV14 := Lib.hid (HV13.out.ext he14)
  have HX14 := Lib.hid (HX13.out.trans he14)
  have HO14 := Lib.hid (HO13.out.ext he14)
  clear he14 HV13 HX13 HO13 c0 c1 c2 c3 c4 c5 c6 c7 c8 c9
  obtain ⟨c0, c1, c2, c3, c4, c5, c6, c7, c8, c9⟩ := HV14.out.cells
  trace "S14"
  go_wp2_with fail
  refine (H10.out _).mono ?_
  rintro e w15 ⟨rfl, he15⟩
  have HV15 := Lib.hid (HV14.out.ext he15)
  have HX15 := Lib.hid (HX14.out.trans he15)
  have HO15 := Lib.hid (HO14.out.ext he15)
  clear he15 HV14 HX14 HO14 c0 c1 c2 c3 c4 c5 c6 c7 c8 c9
  obtain ⟨c0, c1, c2, c3, c4, c5, c6, c7, c8, c9⟩ := HV15.out.cells
  trace "S15"
  go_wp2_with fail
  go_ret
  exact ⟨rfl, HX15.out⟩
end Go.Proofs.Ytbcbhcohfbkijaa
