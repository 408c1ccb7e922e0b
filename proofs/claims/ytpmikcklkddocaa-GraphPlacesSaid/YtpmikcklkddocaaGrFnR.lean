/-
  The document's Family, Arity, family.
-/
import Derived.Test.YtpmikcklkddocaaGrFn
namespace Go.Proofs.Ytpmikcklkddocaa
open Go.RowKit Go.Ox Go.Ox.Gr
set_option linter.unusedVariables false
set_option linter.unusedSimpArgs false

set_option maxRecDepth 100000 in
set_option maxHeartbeats 4000000 in
theorem rfnFamily (k a : Int) (w : World) : Calls Try.prog 60 #[fnV k a] w fun e w' => e = .returned (.int .i64 (fam k a)) ∧ Ext w w' := by
  have HX0 := Lib.hid ((Ext.refl w).alloc (.cells #[.int .i64 k, .int .i64 a] 38))
  have hb := Blk.new w 38 #[.int .i64 k, .int .i64 a]
  have c0 : (w.alloc (.cells #[.int .i64 k, .int .i64 a] 38)).cell? ⟨w.heap.size, 0, none⟩ = some (.int .i64 k) := hb.cell 0
  have c1 : (w.alloc (.cells #[.int .i64 k, .int .i64 a] 38)).cell? ⟨w.heap.size, 1, none⟩ = some (.int .i64 a) := hb.cell 1
  clear hb
  have hlo : 0 ≤ lst k ∧ mst k ≤ 1048575 := by
    unfold lst mst
    repeat' split
    all_goals omega
  by_cases h1 : a < 0
  · rw [show fam k a = 0 from if_pos (by omega)]
    clear hlo
    go_enter Try.func60, Try.ntmps60
    go_wp2
    go_ret
    exact ⟨rfl, HX0.out⟩
  by_cases h2 : 1048576 ≤ a
  · rw [show fam k a = 0 from if_pos (by omega)]
    clear hlo
    go_enter Try.func60, Try.ntmps60
    go_wp2
    go_ret
    exact ⟨rfl, HX0.out⟩
  clear hlo
  have ha : (a = 0 ∧ ¬ 1 ≤ a ∧ a ≤ 8) ∨ (¬ a = 0 ∧ 1 ≤ a ∧ a ≤ 8) ∨ (¬ a = 0 ∧ 1 ≤ a ∧ ¬ a ≤ 8) := by omega
  rcases kinds k with rfl | rfl | rfl | rfl | rfl | rfl | rfl | rfl | rfl | rfl | rfl | rfl | rfl | rfl | rfl | rfl | rfl | rfl | rfl | rfl | rfl | rfl | rfl | hk
  case' inr.inr.inr.inr.inr.inr.inr.inr.inr.inr.inr.inr.inr.inr.inr.inr.inr.inr.inr.inr.inr.inr.inr =>
    have e1 : fam k a = 0 := by unfold fam fk; rcases hk with hk | hk; rw [if_pos hk]; simp; rw [if_neg (show ¬ k < 1 by omega), if_neg (show ¬ k ≤ 8 by omega), if_neg (show ¬ k ≤ 12 by omega), if_neg (show ¬ k ≤ 15 by omega), if_neg (show ¬ k ≤ 19 by omega), if_neg (show ¬ k ≤ 23 by omega)]; simp
    rw [e1]
    clear e1
    have n1 : ¬ k = 1 := by omega
    have n2 : ¬ k = 2 := by omega
    have n3 : ¬ k = 3 := by omega
    have n4 : ¬ k = 4 := by omega
    have n5 : ¬ k = 5 := by omega
    have n6 : ¬ k = 6 := by omega
    have n7 : ¬ k = 7 := by omega
    have n8 : ¬ k = 8 := by omega
    have n9 : ¬ k = 9 := by omega
    have n10 : ¬ k = 10 := by omega
    have n11 : ¬ k = 11 := by omega
    have n12 : ¬ k = 12 := by omega
    have n13 : ¬ k = 13 := by omega
    have n14 : ¬ k = 14 := by omega
    have n15 : ¬ k = 15 := by omega
    have n16 : ¬ k = 16 := by omega
    have n17 : ¬ k = 17 := by omega
    have n18 : ¬ k = 18 := by omega
    have n19 : ¬ k = 19 := by omega
    have n20 : ¬ k = 20 := by omega
    have n21 : ¬ k = 21 := by omega
    have n22 : ¬ k = 22 := by omega
    have n23 : ¬ k = 23 := by omega
    clear hk
  all_goals
    rcases ha with ⟨rfl, g2, g3⟩ | ⟨g1, g2, g3⟩ | ⟨g1, g2, g3⟩
    all_goals
      go_enter Try.func60, Try.ntmps60
      go_wp2
      go_ret
      refine ⟨?_, HX0.out⟩
      first | rfl | (unfold fam lst mst fk; simp; omega)

set_option maxRecDepth 100000 in
set_option maxHeartbeats 400000 in
theorem rArity_any (k : Int) (w : World) : Calls Try.prog 19 #[.int .i64 k] w fun e w' => e = .returned (.int .i64 (arity k)) ∧ w = w' := by
  rcases ops11 k with rfl | rfl | rfl | rfl | rfl | rfl | rfl | rfl | rfl | rfl | rfl | hk
  case' inr.inr.inr.inr.inr.inr.inr.inr.inr.inr.inr =>
    have e1 : arity k = 0 := by unfold arity; repeat' rw [if_neg (by omega)]
    rw [e1]
    clear e1
    have n1 : ¬ k = 1 := by omega
    have n2 : ¬ k = 2 := by omega
    have n3 : ¬ k = 3 := by omega
    have n4 : ¬ k = 4 := by omega
    have n5 : ¬ k = 5 := by omega
    have n6 : ¬ k = 6 := by omega
    have n7 : ¬ k = 7 := by omega
    have n8 : ¬ k = 8 := by omega
    have n9 : ¬ k = 9 := by omega
    have n10 : ¬ k = 10 := by omega
    have n11 : ¬ k = 11 := by omega
    clear hk
  all_goals
    go_enter Try.func19, Try.ntmps19
    go_wp2
    go_ret
    exact ⟨rfl, rfl⟩

set_option maxRecDepth 100000 in
set_option maxHeartbeats 400000 in
theorem rfamily_any (k : Int) (w : World) : Calls Try.prog 59 #[.int .i64 k] w fun e w' => e = .returned (.int .i64 (fmly k)) ∧ w = w' := by
  rcases ops11 k with rfl | rfl | rfl | rfl | rfl | rfl | rfl | rfl | rfl | rfl | rfl | hk
  case' inr.inr.inr.inr.inr.inr.inr.inr.inr.inr.inr =>
    have e1 : fmly k = 0 := by unfold fmly; repeat' rw [if_neg (by omega)]
    rw [e1]
    clear e1
    have n1 : ¬ k = 1 := by omega
    have n2 : ¬ k = 2 := by omega
    have n3 : ¬ k = 3 := by omega
    have n4 : ¬ k = 4 := by omega
    have n5 : ¬ k = 5 := by omega
    have n6 : ¬ k = 6 := by omega
    have n7 : ¬ k = 7 := by omega
    have n8 : ¬ k = 8 := by omega
    have n9 : ¬ k = 9 := by omega
    have n10 : ¬ k = 10 := by omega
    have n11 : ¬ k = 11 := by omega
    clear hk
  all_goals
    go_enter Try.func59, Try.ntmps59
    go_wp2
    go_ret
    exact ⟨rfl, rfl⟩

end Go.Proofs.Ytpmikcklkddocaa
