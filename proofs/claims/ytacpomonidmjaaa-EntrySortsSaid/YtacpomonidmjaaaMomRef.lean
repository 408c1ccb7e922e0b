/-
  The walks of the document's answer on moments.
-/
import Derived.Test.YtacpomonidmjaaaMomFn
namespace Go.Proofs.Ytacpomonidmjaaa.Mo
open Go.RowKit Go.Ox Go.Shelf

/-- are two pairs one? shut to simp -/
def pairB (a b c d : Int) : Bool := decide ((a, b) = (c, d))
theorem pairB_t {a b c d : Int} (h : (a, b) = (c, d)) : pairB a b c d = true := by unfold pairB; simpa using h
theorem pairB_f {a b c d : Int} (h : (a, b) ≠ (c, d)) : pairB a b c d = false := by unfold pairB; simpa using h
theorem pairEq (a b c d : Int) : pairB a b c d = ((a == c) && (b == d)) := by
  unfold pairB; rw [Bool.eq_iff_iff]; simp
theorem eqInM (a b c d : Int) (w : World) : (Op.equalIn 10000 24 (.agg #[.int .i64 a, .int .i64 b]) (.agg #[.int .i64 c, .int .i64 d])).run Try.prog w = .ok (pairB a b c d) w := by
  have u3 := Try.underlying3
  have a3 := Try.isAgg3
  have z3 := Try.sizeOf3
  have hS : Try.prog.underlying 24 = some (.struct (Try.prog.fieldsOf 24)) := by kernel_rfl
  have hp : Try.prog.stoodInHeld 24 = false := by kernel_rfl
  rw [show (10000 : Nat) = 9999 + 1 from rfl, run_equalIn_agg w 9999 24 _ _ hS hp]
  simp only [Program.fieldsOf, Try.underlying24]
  rw [pairEq]
  go_simp
  by_cases h1 : a = c <;> by_cases h2 : b = d <;> simp [h1, h2]
theorem eqM (a b c d : Int) (w : World) : (binOp .eql 24 (.agg #[.int .i64 a, .int .i64 b]) (.agg #[.int .i64 c, .int .i64 d])).run Try.prog w = .ok (.bool (pairB a b c d)) w := by
  rw [run_eql_struct, eqInM]; rfl
theorem neM (a b c d : Int) (w : World) : (binOp .neq 24 (.agg #[.int .i64 a, .int .i64 b]) (.agg #[.int .i64 c, .int .i64 d])).run Try.prog w = .ok (.bool (!pairB a b c d)) w := by
  rw [run_neq_struct, eqInM]; rfl
theorem guardM : Try.prog.eqGuardType Try.prog.depth 24 = false := by kernel_rfl

set_option maxRecDepth 100000 in
set_option maxHeartbeats 400000 in
theorem rcheck_any (m : Mom.M) (w : World) : Calls Try.prog 37 #[mV m] w fun e w' => e = .returned (.bool (Mom.ok m)) ∧ Ext w w' := by
  obtain ⟨e, r⟩ := m
  unfold Mom.ok
  dsimp only
  by_cases h1 : 0 ≤ e
  · have d1 : decide (0 ≤ e) = true := by simpa using h1
    rw [d1, Bool.true_and]
    by_cases h2 : e < 65536
    · have d2 : decide (e < 65536) = true := by simpa using h2
      rw [d2, Bool.true_and]
      by_cases h3 : 0 ≤ r
      · have d3 : decide (0 ≤ r) = true := by simpa using h3
        rw [d3, Bool.true_and]
        by_cases h4 : r < 65536
        · have d4 : decide (r < 65536) = true := by simpa using h4
          rw [d4]
          go_enter Try.func37, Try.ntmps37
          go_wp2
          go_ret
          exact ⟨rfl, (Ext.refl _).alloc _⟩
        · have d4 : decide (r < 65536) = false := by simpa using h4
          rw [d4]
          go_enter Try.func37, Try.ntmps37
          go_wp2
          go_ret
          exact ⟨rfl, (Ext.refl _).alloc _⟩
      · have d3 : decide (0 ≤ r) = false := by simpa using h3
        rw [d3, Bool.false_and]
        go_enter Try.func37, Try.ntmps37
        go_wp2
        go_ret
        exact ⟨rfl, (Ext.refl _).alloc _⟩
    · have d2 : decide (e < 65536) = false := by simpa using h2
      rw [d2, Bool.false_and]
      go_enter Try.func37, Try.ntmps37
      go_wp2
      go_ret
      exact ⟨rfl, (Ext.refl _).alloc _⟩
  · have d1 : decide (0 ≤ e) = false := by simpa using h1
    rw [d1, Bool.false_and, Bool.false_and]
    go_enter Try.func37, Try.ntmps37
    go_wp2
    go_ret
    exact ⟨rfl, (Ext.refl _).alloc _⟩
set_option maxRecDepth 100000 in
set_option maxHeartbeats 400000 in
theorem rahead_any (a b : Mom.M) (w : World) : Calls Try.prog 75 #[mV a, mV b] w fun e w' => e = .returned (.bool (Mom.ahead a b)) ∧ Ext w w' := by
  obtain ⟨a1, a2⟩ := a
  obtain ⟨b1, b2⟩ := b
  unfold Mom.ahead
  dsimp only
  by_cases h1 : a1 ≤ b1
  · have d1 : decide (a1 ≤ b1) = true := by simpa using h1
    rw [d1, Bool.true_and]
    by_cases h2 : a2 ≤ b2
    · have d2 : decide (a2 ≤ b2) = true := by simpa using h2
      rw [d2]
      go_enter Try.func75, Try.ntmps75
      go_wp2
      go_ret
      exact ⟨rfl, ((Ext.refl _).alloc _).alloc _⟩
    · have d2 : decide (a2 ≤ b2) = false := by simpa using h2
      rw [d2]
      go_enter Try.func75, Try.ntmps75
      go_wp2
      go_ret
      exact ⟨rfl, ((Ext.refl _).alloc _).alloc _⟩
  · have d1 : decide (a1 ≤ b1) = false := by simpa using h1
    rw [d1, Bool.false_and]
    go_enter Try.func75, Try.ntmps75
    go_wp2
    go_ret
    exact ⟨rfl, ((Ext.refl _).alloc _).alloc _⟩
set_option maxRecDepth 100000 in
set_option maxHeartbeats 400000 in
theorem rcompare_any (a b : Mom.M) (w : World) : Calls Try.prog 42 #[mV a, mV b] w fun e w' => e = .returned (.int .i64 (Mom.cmp a b)) ∧ Ext w w' := by
  obtain ⟨a1, a2⟩ := a
  obtain ⟨b1, b2⟩ := b
  have hE := eqInM
  have hG := guardM
  unfold Mom.cmp
  dsimp only
  by_cases h1 : a1 < b1
  · rw [if_pos h1]
    go_enter Try.func42, Try.ntmps42
    go_wp2
    go_ret
    exact ⟨rfl, ((Ext.refl _).alloc _).alloc _⟩
  rw [if_neg h1]
  by_cases h2 : b1 < a1
  · rw [if_pos h2]
    have e1 : (a1 == b1) = false := by simp; omega
    have e2 : pairB a1 a2 b1 b2 = false := pairB_f (by simp; omega)
    go_enter Try.func42, Try.ntmps42
    go_wp2
    go_ret
    exact ⟨rfl, ((Ext.refl _).alloc _).alloc _⟩
  rw [if_neg h2]
  obtain rfl : a1 = b1 := by omega
  by_cases h3 : a2 < b2
  · rw [if_pos h3]
    go_enter Try.func42, Try.ntmps42
    go_wp2
    go_ret
    exact ⟨rfl, ((Ext.refl _).alloc _).alloc _⟩
  rw [if_neg h3]
  by_cases h4 : b2 < a2
  · rw [if_pos h4]
    have e2 : pairB a1 a2 a1 b2 = false := pairB_f (by simp; omega)
    go_enter Try.func42, Try.ntmps42
    go_wp2
    go_ret
    exact ⟨rfl, ((Ext.refl _).alloc _).alloc _⟩
  rw [if_neg h4]
  obtain rfl : a2 = b2 := by omega
  have e2 : pairB a1 a2 a1 a2 = true := pairB_t rfl
  go_enter Try.func42, Try.ntmps42
  go_wp2
  go_ret
  exact ⟨rfl, ((Ext.refl _).alloc _).alloc _⟩

end Go.Proofs.Ytacpomonidmjaaa.Mo
