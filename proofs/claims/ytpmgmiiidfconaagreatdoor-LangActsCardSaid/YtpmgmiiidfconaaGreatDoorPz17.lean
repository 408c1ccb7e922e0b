/-
  Rec, packed: what the claim needs of them.
-/
import Derived.Test.YtpmgmiiidfconaaGreatDoorChecked
import Derived.Test.YtpmgmiiidfconaaGreatDoorPz02
import Derived.Test.YtpmgmiiidfconaaGreatDoorPz04
import Derived.Test.YtpmgmiiidfconaaGreatDoorPz11
import Derived.Test.YtpmgmiiidfconaaGreatDoorPz03
import Derived.Test.YtpmgmiiidfconaaGreatDoorPz05
import Derived.WalkKit
import Derived.WalkSpells
import Derived.WalkLawsBesides
import Derived.StillTailTactics
import Derived.IntWalk
namespace Go.Proofs.YtpmgmiiidfconaaGreatDoor
open Go.RowKit Go.Ox
set_option linter.unusedVariables false
/-- a moment as a value -/
abbrev mV (m : Mom.M) : Value := .agg #[.int .i64 m.1, .int .i64 m.2]
/-- which of two numbers is less -/
def cmpI (x y : Int) : Int := if x < y then -1 else if y < x then 1 else 0
theorem boxes2 (w : World) (T T' : TypeId) (a b c d : Value) :
    ((w.alloc (.cells #[a, b] T)).alloc (.cells #[c, d] T')).cell? ⟨w.heap.size, 0, none⟩ = some a ∧ ((w.alloc (.cells #[a, b] T)).alloc (.cells #[c, d] T')).cell? ⟨w.heap.size, 1, none⟩ = some b ∧
    ((w.alloc (.cells #[a, b] T)).alloc (.cells #[c, d] T')).cell? ⟨w.heap.size + 1, 0, none⟩ = some c ∧ ((w.alloc (.cells #[a, b] T)).alloc (.cells #[c, d] T')).cell? ⟨w.heap.size + 1, 1, none⟩ = some d := by
  have h1 := Blk.new w T #[a, b]
  have h2 := Blk.new (w.alloc (.cells #[a, b] T)) T' #[c, d]
  have h3 := h1.ext ((Ext.refl _).alloc (.cells #[c, d] T'))
  have hs : (w.alloc (.cells #[a, b] T)).heap.size = w.heap.size + 1 := by simp
  rw [hs] at h2
  exact ⟨h3.cell 0, h3.cell 1, h2.cell 0, h2.cell 1⟩
set_option maxRecDepth 100000 in
set_option maxHeartbeats 400000 in
theorem isNaN_any (x : Int) (w : World) : Calls Tryz.prog 165 #[.int .i64 x] w fun e w' => e = .returned (.bool false) ∧ w = w' := by
  go_enter Tryz.func165, Tryz.ntmps165
  go_wp2
  go_ret
  exact ⟨rfl, rfl⟩
set_option maxRecDepth 100000 in
set_option maxHeartbeats 400000 in
theorem compareInt_any (x y : Int) (w : World) : Calls Tryz.prog 148 #[.int .i64 x, .int .i64 y] w fun e w' => e = .returned (.int .i64 (cmpI x y)) ∧ w = w' := by
  unfold cmpI
  by_cases h1 : x < y
  · rw [if_pos h1]
    go_enter Tryz.func148, Tryz.ntmps148
    go_wp2_with (go_at_call 165; refine (isNaN_any _ _).mono ?_; rintro e w' ⟨rfl, rfl⟩)
    go_ret
    exact ⟨rfl, rfl⟩
  · rw [if_neg h1]
    by_cases h2 : y < x
    · rw [if_pos h2]
      go_enter Tryz.func148, Tryz.ntmps148
      go_wp2_with (go_at_call 165; refine (isNaN_any _ _).mono ?_; rintro e w' ⟨rfl, rfl⟩)
      go_ret
      exact ⟨rfl, rfl⟩
    · rw [if_neg h2]
      go_enter Tryz.func148, Tryz.ntmps148
      go_wp2_with (go_at_call 165; refine (isNaN_any _ _).mono ?_; rintro e w' ⟨rfl, rfl⟩)
      go_ret
      exact ⟨rfl, rfl⟩
/-- the first that is not 0 -/
def orI (a b : Int) : Int := if a = 0 then b else a
theorem cmpOr (a b : Mom.M) : orI (cmpI a.1 b.1) (cmpI a.2 b.2) = Mom.cmp a b := by
  unfold orI cmpI Mom.cmp
  repeat' split
  all_goals omega
set_option maxRecDepth 100000 in
set_option maxHeartbeats 400000 in
theorem or_any (v : Value) (a b : Int) (w : World) (hv : Rd w 1 v 2 [.int .i64 a, .int .i64 b]) : Calls Tryz.prog 147 #[v] w fun e w' => e = .returned (.int .i64 (orI a b)) ∧ w = w' := by
  obtain ⟨A, c, rfl, hrd⟩ := hv
  obtain ⟨g, o, rfl⟩ := hrd.addr (by omega)
  have hc0 := hrd.get (j := 0) (u := .int .i64 a) rfl
  have hc1 := hrd.get (j := 1) (u := .int .i64 b) rfl
  rw [Nat.add_zero] at hc0
  clear hrd
  unfold orI
  go_enter Tryz.func147, Tryz.ntmps147
  go_wp2
  go_loop [8] (fun i => ∃ k : Nat, k ≤ 2 ∧ i = .int .i64 k ∧ (0 < k → a = 0) ∧ (1 < k → b = 0)) (fun i => 2 - (intOf i).toNat)
  case atStart => exact ⟨0, by omega, rfl, fun h => by omega, fun h => by omega⟩
  case round =>
    obtain ⟨k, hk, rfl, h0, h1⟩ := hrel
    match k, hk with
    | 0, _ =>
      by_cases ha : a = 0
      · subst ha
        clear h0 h1
        go_wp2
        exact ⟨⟨1, by omega, rfl, by simp, fun h => by omega⟩, by simp [intOf]⟩
      · have hb : (a != 0) = true := by simpa using ha
        clear h0 h1
        go_wp2
        go_ret
        exact ⟨rfl, rfl⟩
    | 1, _ =>
      obtain rfl := h0 (by omega)
      by_cases hb : b = 0
      · subst hb
        clear h0 h1
        go_wp2
        exact ⟨⟨2, by omega, rfl, by simp, by simp⟩, by simp [intOf]⟩
      · have hb2 : (b != 0) = true := by simpa using hb
        clear h0 h1
        go_wp2
        go_ret
        exact ⟨rfl, rfl⟩
    | 2, _ =>
      obtain rfl := h0 (by omega)
      obtain rfl := h1 (by omega)
      clear h0 h1
      go_wp2
      go_ret
      exact ⟨rfl, rfl⟩
set_option maxRecDepth 100000 in
set_option maxHeartbeats 400000 in
theorem compare_grown (a b : Mom.M) (w : World) : Calls Tryz.prog 122 #[mV a, mV b] w fun e w' => e = .returned (.int .i64 (Mom.cmp a b)) ∧ GrownW w w' := by
  have HC := Lib.hid (cmpOr a b)
  obtain ⟨a1, a2⟩ := a
  obtain ⟨b1, b2⟩ := b
  dsimp only at *
  go_enter Tryz.func122, Tryz.ntmps122
  go_wp2
  have hb := boxes2 w 66 66 (.int .i64 a1) (.int .i64 a2) (.int .i64 b1) (.int .i64 b2)
  obtain ⟨c1, c2, c3, c4⟩ := hb
  generalize hw2 : ((w.alloc (.cells #[.int .i64 a1, .int .i64 a2] 66)).alloc (.cells #[.int .i64 b1, .int .i64 b2] 66)) = w2 at *
  have hx : GrownW w w2 := by rw [← hw2]; exact ((GrownW.refl _).alloc _).alloc _
  clear hw2
  refine wp_regionY [] [] GrownW GrownW (fun _ => True) (by kernel_rfl) (by rfl) (by rfl) (by kernel_rfl) (by kernel_rfl) (by kernel_rfl) (fun _ _ _ x y => x.trans y) GrownW.refl (fun _ _ x => x) (GrownW.refl _).drew (fun _ _ x _ => x) trivial ?_
  refine ya ?_
  refine yl1 c1 ?_
  refine ya ?_
  refine yl1 c3 ?_
  refine wpY_call (fun v _ => v = .int .i64 (cmpI a1 b1)) rfl rfl (by first | exact runs0 | exact runs1 rfl) rfl (by first | exact mono_eq | exact (fun _ _ _ h k => Rd.ext h k) | exact (fun _ _ _ h k => RB.ext h k) | exact (fun _ _ _ h k => OB.ext h k) | exact (fun _ _ _ h k => RB.extS h k) | exact (fun _ _ _ h k => Rd.ext h (GrownW.ext k)) | exact (fun _ _ _ h k => RP.ext h k) | exact (fun _ _ _ h k => OP.ext h k) | exact (fun _ _ _ h k => Rd.extV h k) | exact (fun _ _ _ h k => RB.extV h k) | exact (fun _ _ _ h k => E0.ext h k) | exact (fun _ _ _ h k => O0.ext h k) | exact (fun _ _ _ h k => RE.ext h k) | exact (fun _ _ _ h k => RE.extD h k) | exact (fun _ _ _ h _ => h) | exact (fun _ _ _ ⟨n, h1, h2⟩ k => ⟨n, h1, k.st _ _ h2⟩) | exact (fun _ _ _ h k => OE.ext h k) | exact (fun _ _ _ ⟨n, h1, h2, h3⟩ k => ⟨n, h1, h2, h3.ext k⟩)) ?_ ?_
  · intro a w' hR h1 h2 K hK
    have e1 : _ = _ := h1
    have e2 : _ = _ := h2
    go_simp
    refine (compareInt_any a1 b1 w').mono ?_
    rintro e w2 ⟨rfl, rfl⟩
    exact hK _ _ (GrownW.refl _) rfl
  refine ya ?_
  refine yl1 c2 ?_
  refine ya ?_
  refine yl1 c4 ?_
  refine wpY_call (fun v _ => v = .int .i64 (cmpI a2 b2)) rfl rfl (by first | exact runs0 | exact runs1 rfl) rfl (by first | exact mono_eq | exact (fun _ _ _ h k => Rd.ext h k) | exact (fun _ _ _ h k => RB.ext h k) | exact (fun _ _ _ h k => OB.ext h k) | exact (fun _ _ _ h k => RB.extS h k) | exact (fun _ _ _ h k => Rd.ext h (GrownW.ext k)) | exact (fun _ _ _ h k => RP.ext h k) | exact (fun _ _ _ h k => OP.ext h k) | exact (fun _ _ _ h k => Rd.extV h k) | exact (fun _ _ _ h k => RB.extV h k) | exact (fun _ _ _ h k => E0.ext h k) | exact (fun _ _ _ h k => O0.ext h k) | exact (fun _ _ _ h k => RE.ext h k) | exact (fun _ _ _ h k => RE.extD h k) | exact (fun _ _ _ h _ => h) | exact (fun _ _ _ ⟨n, h1, h2⟩ k => ⟨n, h1, k.st _ _ h2⟩) | exact (fun _ _ _ h k => OE.ext h k) | exact (fun _ _ _ ⟨n, h1, h2, h3⟩ k => ⟨n, h1, h2, h3.ext k⟩)) ?_ ?_
  · intro a w' hR h1 h2 K hK
    have e1 : _ = _ := h1
    have e2 : _ = _ := h2
    go_simp
    refine (compareInt_any a2 b2 w').mono ?_
    rintro e w2 ⟨rfl, rfl⟩
    exact hK _ _ (GrownW.refl _) rfl
  refine wpY_call (fun v w2 => Rd w2 1 v 2 [.int .i64 (cmpI a1 b1), .int .i64 (cmpI a2 b2)]) rfl rfl (by first | exact runs0 | exact runs1 rfl) rfl (by first | exact mono_eq | exact (fun _ _ _ h k => Rd.ext h k) | exact (fun _ _ _ h k => RB.ext h k) | exact (fun _ _ _ h k => OB.ext h k) | exact (fun _ _ _ h k => RB.extS h k) | exact (fun _ _ _ h k => Rd.ext h (GrownW.ext k)) | exact (fun _ _ _ h k => RP.ext h k) | exact (fun _ _ _ h k => OP.ext h k) | exact (fun _ _ _ h k => Rd.extV h k) | exact (fun _ _ _ h k => RB.extV h k) | exact (fun _ _ _ h k => E0.ext h k) | exact (fun _ _ _ h k => O0.ext h k) | exact (fun _ _ _ h k => RE.ext h k) | exact (fun _ _ _ h k => RE.extD h k) | exact (fun _ _ _ h _ => h) | exact (fun _ _ _ ⟨n, h1, h2⟩ k => ⟨n, h1, k.st _ _ h2⟩) | exact (fun _ _ _ h k => OE.ext h k) | exact (fun _ _ _ ⟨n, h1, h2, h3⟩ k => ⟨n, h1, h2, h3.ext k⟩)) ?_ ?_
  · intro a w' hR h1 h2 K hK
    have e1 : _ = _ := h1
    have e2 : _ = _ := h2
    have q1 : a.tmps[9]?.getD undef = .int .i64 (cmpI a1 b1) := by simpa using e1
    have q2 : a.tmps[14]?.getD undef = .int .i64 (cmpI a2 b2) := by simpa using e2
    go_simp
    exact hK _ _ ((GrownW.refl _).alloc _) (Rd.lit _ #[.int .i64 (cmpI a1 b1), .int .i64 (cmpI a2 b2)] _ 2 rfl (by unfold maxLen; omega))
  refine wpY_call (fun v _ => v = .int .i64 (orI (cmpI a1 b1) (cmpI a2 b2))) rfl rfl (by first | exact runs0 | exact runs1 rfl) rfl (by first | exact mono_eq | exact (fun _ _ _ h k => Rd.ext h k) | exact (fun _ _ _ h k => RB.ext h k) | exact (fun _ _ _ h k => OB.ext h k) | exact (fun _ _ _ h k => RB.extS h k) | exact (fun _ _ _ h k => Rd.ext h (GrownW.ext k)) | exact (fun _ _ _ h k => RP.ext h k) | exact (fun _ _ _ h k => OP.ext h k) | exact (fun _ _ _ h k => Rd.extV h k) | exact (fun _ _ _ h k => RB.extV h k) | exact (fun _ _ _ h k => E0.ext h k) | exact (fun _ _ _ h k => O0.ext h k) | exact (fun _ _ _ h k => RE.ext h k) | exact (fun _ _ _ h k => RE.extD h k) | exact (fun _ _ _ h _ => h) | exact (fun _ _ _ ⟨n, h1, h2⟩ k => ⟨n, h1, k.st _ _ h2⟩) | exact (fun _ _ _ h k => OE.ext h k) | exact (fun _ _ _ ⟨n, h1, h2, h3⟩ k => ⟨n, h1, h2, h3.ext k⟩)) ?_ ?_
  · intro a w' hR h1 K hK
    obtain ⟨x, ex, fx⟩ : ∃ x, a.tmps.getD 15 undef = x ∧ (fun v w2 => Rd w2 1 v 2 [.int .i64 (cmpI a1 b1), .int .i64 (cmpI a2 b2)]) x w' := ⟨_, rfl, h1⟩
    go_simp
    refine (or_any _ _ _ w' fx).mono ?_
    rintro e w2 ⟨rfl, rfl⟩
    exact hK _ _ (GrownW.refl _) rfl
  refine ya ?_
  refine wpY_done ?_
  intro w5 hx5 hS
  iterate 10 (rintro _ rfl)
  iterate 1 (intro _ hz; clear hz)
  iterate 2 (rintro _ rfl)
  dsimp only [FinV]
  go_simp
  go_wp2
  go_ret
  rw [HC.out]
  exact ⟨rfl, hx.trans hx5⟩
theorem elemM : Elem Tryz.prog 67 66 (.agg #[.int .i64 0, .int .i64 0]) 2 16 := Elem.mk' Tryz.underlying67 (by kernel_rfl) rfl (by omega)
theorem eqlNilM (w : World) (A : Option Addr) (n c n' c' : Nat) : (binOp .eql 67 (.slice A n c) (.slice none n' c')).run Tryz.prog w = .ok (.bool A.isNone) w :=
  Lib.run_eql_slice_nil (P := Tryz.prog) w 67 66 A n c n' c' Tryz.underlying67
abbrev encM (x : Mom.M) : List Value := [.int .i64 x.1, .int .i64 x.2]
/-- are two pairs one? shut to simp -/
def pairB (a b c d : Int) : Bool := decide ((a, b) = (c, d))
theorem pairB_t {a b c d : Int} (h : (a, b) = (c, d)) : pairB a b c d = true := by unfold pairB; simpa using h
theorem pairB_f {a b c d : Int} (h : (a, b) ≠ (c, d)) : pairB a b c d = false := by unfold pairB; simpa using h
theorem pairEq (a b c d : Int) : pairB a b c d = ((a == c) && (b == d)) := by
  unfold pairB; rw [Bool.eq_iff_iff]; simp
theorem eqInM (a b c d : Int) (w : World) : (Op.equalIn 10000 66 (.agg #[.int .i64 a, .int .i64 b]) (.agg #[.int .i64 c, .int .i64 d])).run Tryz.prog w = .ok (pairB a b c d) w := by
  have u3 := Tryz.underlying3
  have a3 := Tryz.isAgg3
  have z3 := Tryz.sizeOf3
  have hS : Tryz.prog.underlying 66 = some (.struct (Tryz.prog.fieldsOf 66)) := by kernel_rfl
  have hp : Tryz.prog.stoodInHeld 66 = false := by kernel_rfl
  rw [show (10000 : Nat) = 9999 + 1 from rfl, run_equalIn_agg w 9999 66 _ _ hS hp]
  simp only [Program.fieldsOf, Tryz.underlying66]
  rw [pairEq]
  go_simp
  by_cases h1 : a = c <;> by_cases h2 : b = d <;> simp [h1, h2]
theorem neM (a b c d : Int) (w : World) : (binOp .neq 66 (.agg #[.int .i64 a, .int .i64 b]) (.agg #[.int .i64 c, .int .i64 d])).run Tryz.prog w = .ok (.bool (!pairB a b c d)) w := by
  rw [run_neq_struct, eqInM]; rfl
theorem guardM : Tryz.prog.eqGuardType Tryz.prog.depth 66 = false := by kernel_rfl
set_option maxRecDepth 100000 in
set_option maxHeartbeats 400000 in
theorem within_any (n : Int) (w : World) : Calls Tryz.prog 135 #[.int .i64 n] w fun e w' => e = .returned (.bool (decide (0 ≤ n) && decide (n < 1048576))) ∧ w = w' := by
  by_cases h1 : 0 ≤ n
  · rw [decide_eq_true h1, Bool.true_and]
    by_cases h2 : n < 1048576
    · have h3 : n ≤ 1048575 := by omega
      rw [decide_eq_true h2]
      go_enter Tryz.func135, Tryz.ntmps135
      go_wp2
      go_ret
      exact ⟨rfl, rfl⟩
    · have h3 : ¬ n ≤ 1048575 := by omega
      rw [decide_eq_false h2]
      go_enter Tryz.func135, Tryz.ntmps135
      go_wp2
      go_ret
      exact ⟨rfl, rfl⟩
  · rw [decide_eq_false h1, Bool.false_and]
    have h4 : decide (0 ≤ n) = false := decide_eq_false h1
    go_enter Tryz.func135, Tryz.ntmps135
    go_wp2
    go_ret
    exact ⟨rfl, rfl⟩
set_option maxRecDepth 100000 in
set_option maxHeartbeats 400000 in
theorem check_any (m : Rec.R) (w : World) : Calls Tryz.prog 112 #[mV m] w fun e w' => e = .returned (.int .i64 (if Rec.ok m = true then 0 else 30)) ∧ Ext w w' := by
  obtain ⟨a, b⟩ := m
  have HA := Lib.hid (fun w => within_any a w)
  have HB := Lib.hid (fun w => within_any b w)
  unfold Rec.ok
  dsimp only
  cases h1 : (decide (0 ≤ a) && decide (a < 1048576)) with
  | false =>
    rw [h1] at HA
    clear h1
    go_enter Tryz.func112, Tryz.ntmps112
    go_wp2_with fail
    refine (HA.out _).mono ?_
    rintro e w1 ⟨rfl, rfl⟩
    go_wp2
    go_ret
    exact ⟨by simp, (Ext.refl _).alloc _⟩
  | true =>
    rw [h1] at HA
    clear h1
    cases h2 : (decide (0 ≤ b) && decide (b < 1048576)) with
    | false =>
      rw [h2] at HB
      clear h2
      go_enter Tryz.func112, Tryz.ntmps112
      go_wp2_with fail
      refine (HA.out _).mono ?_
      rintro e w1 ⟨rfl, rfl⟩
      go_wp2_with fail
      refine (HB.out _).mono ?_
      rintro e w1 ⟨rfl, rfl⟩
      go_wp2
      go_ret
      exact ⟨by simp, (Ext.refl _).alloc _⟩
    | true =>
      rw [h2] at HB
      clear h2
      go_enter Tryz.func112, Tryz.ntmps112
      go_wp2_with fail
      refine (HA.out _).mono ?_
      rintro e w1 ⟨rfl, rfl⟩
      go_wp2_with fail
      refine (HB.out _).mono ?_
      rintro e w1 ⟨rfl, rfl⟩
      go_wp2
      go_ret
      exact ⟨by simp, (Ext.refl _).alloc _⟩
set_option maxRecDepth 100000 in
set_option maxHeartbeats 400000 in
theorem rcompare_any (a b : Mom.M) (w : World) : Calls Tryz.prog 103 #[mV a, mV b] w fun e w' => e = .returned (.int .i64 (Mom.cmp a b)) ∧ Ext w w' := by
  obtain ⟨a1, a2⟩ := a
  obtain ⟨b1, b2⟩ := b
  have hE := eqInM
  have hG := guardM
  unfold Mom.cmp
  dsimp only
  by_cases h1 : a1 < b1
  · rw [if_pos h1]
    go_enter Tryz.func103, Tryz.ntmps103
    go_wp2
    go_ret
    exact ⟨rfl, ((Ext.refl _).alloc _).alloc _⟩
  rw [if_neg h1]
  by_cases h2 : b1 < a1
  · rw [if_pos h2]
    have e1 : (a1 == b1) = false := by simp; omega
    have e2 : pairB a1 a2 b1 b2 = false := pairB_f (by simp; omega)
    go_enter Tryz.func103, Tryz.ntmps103
    go_wp2
    go_ret
    exact ⟨rfl, ((Ext.refl _).alloc _).alloc _⟩
  rw [if_neg h2]
  obtain rfl : a1 = b1 := by omega
  by_cases h3 : a2 < b2
  · rw [if_pos h3]
    go_enter Tryz.func103, Tryz.ntmps103
    go_wp2
    go_ret
    exact ⟨rfl, ((Ext.refl _).alloc _).alloc _⟩
  rw [if_neg h3]
  by_cases h4 : b2 < a2
  · rw [if_pos h4]
    have e2 : pairB a1 a2 a1 b2 = false := pairB_f (by simp; omega)
    go_enter Tryz.func103, Tryz.ntmps103
    go_wp2
    go_ret
    exact ⟨rfl, ((Ext.refl _).alloc _).alloc _⟩
  rw [if_neg h4]
  obtain rfl : a2 = b2 := by omega
  have e2 : pairB a1 a2 a1 a2 = true := pairB_t rfl
  go_enter Tryz.func103, Tryz.ntmps103
  go_wp2
  go_ret
  exact ⟨rfl, ((Ext.refl _).alloc _).alloc _⟩
set_option maxRecDepth 100000 in
set_option maxHeartbeats 400000 in
theorem exact_len (A B : Option Addr) (n m c d : Nat) (w : World) (hne : n ≠ m) : Calls Tryz.prog 72 #[.slice A n c, .slice B m d] w fun e w' => e = .returned (.bool false) ∧ w = w' := by
  have h1 : ((n : Int) != (m : Int)) = true := by rw [bne_iff_ne]; omega
  go_enter Tryz.func72, Tryz.ntmps72
  go_wp2
  go_ret
  exact ⟨rfl, rfl⟩
set_option maxRecDepth 100000 in
set_option maxHeartbeats 400000 in
theorem exact_any (v u : Value) (l r : List Mom.M) (w : World) (hv : RP w v l) (hu : RP w u r) : Calls Tryz.prog 72 #[v, u] w fun e w' => e = .returned (.bool (decide (l = r))) ∧ Ext w w' := by
  obtain ⟨A, c, rfl⟩ := hv.form
  obtain ⟨B, d, rfl⟩ := hu.form
  by_cases hl : l.length = r.length
  · have HV := Lib.hid hv
    have HU := Lib.hid hu
    have HL := Lib.hid hl
    have hlb : l.length ≤ 9223372036854775807 := by have := hv.nc; unfold maxLen at this; omega
    rw [← hl] at HU ⊢
    clear hv hu hl
    have hE := neM
    have HE := Lib.hid (eqInM)
    have hG := guardM
    go_enter Tryz.func72, Tryz.ntmps72
    go_wp2
    go_loopw [5] (fun i wr => ∃ k : Nat, k ≤ l.length ∧ i = .int .i64 k ∧ l.take k = r.take k ∧ Ext w wr) (fun i _ => l.length - (intOf i).toNat)
    case atStart => exact ⟨0, Nat.zero_le _, rfl, by simp, Ext.refl _⟩
    case round =>
      obtain ⟨k, hk, rfl, ht, hext⟩ := hrel
      have HT := Lib.hid ht
      have HX := Lib.hid hext
      clear ht hext
      by_cases hlt : k < l.length
      · have g1 : (k : Int) < (l.length : Int) := by omega
        have g0 : 0 ≤ (k : Int) := by omega
        have hlr : k < r.length := by have := HL.out; omega
        obtain ⟨b1, o1, rfl, c1, c2⟩ := HV.out.at_ hlt
        obtain ⟨b2, o2, rfl, c3, c4⟩ := HU.out.at_ hlr
        have c1 := HX.out.cell c1
        have c2 := HX.out.cell c2
        have c3 := HX.out.cell c3
        have c4 := HX.out.cell c4
        obtain ⟨hst, hsn⟩ := list_eq_at l r k hlt hlr HT.out
        have HST := Lib.hid hst
        have HSN := Lib.hid hsn
        clear hst hsn
        generalize l[k] = x at *
        generalize r[k] = y at *
        obtain ⟨x1, x2⟩ := x
        obtain ⟨y1, y2⟩ := y
        dsimp only at *
        by_cases hxy : (x1, x2) = (y1, y2)
        · have HN := Lib.hid (HST.out hxy)
          have hd := pairB_t hxy
          clear hxy HST HSN
          go_wp2
          refine yx ?_
          refine ya ?_
          refine yl2 c1 c2 ?_
          refine ya ?_
          refine yl2 c3 c4 ?_
          refine yl0 ?_
          refine wpY_done ?_
          intro w5 hx5 hS5
          iterate 9 (rintro _ rfl)
          dsimp only [FinV]
          go_simp
          have HX5 := Lib.hid hx5
          clear hx5
          go_wp2
          exact ⟨⟨k + 1, by omega, by go_num, HN.out, HX.out.trans HX5.out⟩, by simp [intOf]; omega⟩
        · have HN := Lib.hid (HSN.out hxy)
          have hd := pairB_f hxy
          clear hxy HST HSN
          go_wp2
          refine yx ?_
          refine ya ?_
          refine yl2 c1 c2 ?_
          refine ya ?_
          refine yl2 c3 c4 ?_
          refine yl0 ?_
          refine wpY_done ?_
          intro w5 hx5 hS5
          iterate 9 (rintro _ rfl)
          dsimp only [FinV]
          go_simp
          have HX5 := Lib.hid hx5
          clear hx5
          go_wp2
          go_ret
          rw [HN.out]
          exact ⟨rfl, HX.out.trans HX5.out⟩
      · obtain rfl : k = l.length := by omega
        have hq : decide (l = r) = true := by
          have h1 := HT.out
          have h2 := HL.out
          rw [List.take_length, h2, List.take_length] at h1
          simpa using h1
        have HQ := Lib.hid hq
        clear hq
        go_wp2
        go_ret
        rw [HQ.out]
        exact ⟨rfl, HX.out⟩
  · refine (exact_len A B _ _ c d w hl).mono ?_
    rintro e w' ⟨rfl, rfl⟩
    have : decide (l = r) = false := by simp; intro h; exact hl (by rw [h])
    rw [this]
    exact ⟨rfl, Ext.refl _⟩
end Go.Proofs.YtpmgmiiidfconaaGreatDoor
