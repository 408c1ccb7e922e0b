/-
  Graphs: families of functions, what an op asks for; walks of package fn's Family and of both packages' small functions.
-/
import Derived.Test.YtpmikcklkddocaaGr
import Derived.Test.YtpmikcklkddocaaChecked
import Derived.WalkKit
import Derived.WalkSpells
import Derived.WalkLawsBesides
import Derived.StillTailTactics
import Derived.IntWalk
import Derived.Deep.DeepCutAuto
namespace Go.Proofs.Ytpmikcklkddocaa
open Go.RowKit Go.Ox Go.Ox.Gr
set_option linter.unusedVariables false
set_option linter.unusedSimpArgs false

abbrev fnV (k a : Int) : Value := .agg #[.int .i64 k, .int .i64 a]
theorem eqInF (a b c d : Int) (w : World) : (Op.equalIn 10000 38 (fnV a b) (fnV c d)).run Try.prog w = .ok ((a == c) && (b == d)) w := by
  have u3 := Try.underlying3
  have a3 := Try.isAgg3
  have z3 := Try.sizeOf3
  have hS : Try.prog.underlying 38 = some (.struct (Try.prog.fieldsOf 38)) := by kernel_rfl
  have hp : Try.prog.stoodInHeld 38 = false := by kernel_rfl
  rw [show (10000 : Nat) = 9999 + 1 from rfl, run_equalIn_agg w 9999 38 _ _ hS hp]
  simp only [Program.fieldsOf, Try.underlying38]
  go_simp
  by_cases h1 : a = c <;> by_cases h2 : b = d <;> simp [h1, h2]
theorem eqF (a b c d : Int) (w : World) : (binOp .eql 38 (fnV a b) (fnV c d)).run Try.prog w = .ok (.bool ((a == c) && (b == d))) w := by
  rw [run_eql_struct, eqInF]; rfl
theorem neF (a b c d : Int) (w : World) : (binOp .neq 38 (fnV a b) (fnV c d)).run Try.prog w = .ok (.bool (!((a == c) && (b == d)))) w := by
  rw [run_neq_struct, eqInF]; rfl
theorem guardF : Try.prog.eqGuardType Try.prog.depth 38 = false := by kernel_rfl

theorem kinds (k : Int) : k = 1 ∨ k = 2 ∨ k = 3 ∨ k = 4 ∨ k = 5 ∨ k = 6 ∨ k = 7 ∨ k = 8 ∨ k = 9 ∨ k = 10 ∨ k = 11 ∨ k = 12 ∨ k = 13 ∨ k = 14 ∨ k = 15 ∨ k = 16 ∨ k = 17 ∨ k = 18 ∨ k = 19 ∨ k = 20 ∨ k = 21 ∨ k = 22 ∨ k = 23 ∨ (k < 1 ∨ 23 < k) := by omega
theorem ops11 (k : Int) : k = 1 ∨ k = 2 ∨ k = 3 ∨ k = 4 ∨ k = 5 ∨ k = 6 ∨ k = 7 ∨ k = 8 ∨ k = 9 ∨ k = 10 ∨ k = 11 ∨ (k < 1 ∨ 11 < k) := by omega

set_option maxRecDepth 100000 in
set_option maxHeartbeats 400000 in
theorem fnBounds (k : Int) (w : World) : Calls Try.prog 89 #[.int .i64 k] w fun e w' => e = .returned (.tuple #[.int .i64 (lst k), .int .i64 (mst k)]) ∧ w = w' := by
  rcases kinds k with rfl | rfl | rfl | rfl | rfl | rfl | rfl | rfl | rfl | rfl | rfl | rfl | rfl | rfl | rfl | rfl | rfl | rfl | rfl | rfl | rfl | rfl | rfl | hk
  case' inr.inr.inr.inr.inr.inr.inr.inr.inr.inr.inr.inr.inr.inr.inr.inr.inr.inr.inr.inr.inr.inr.inr =>
    have e1 : lst k = 0 := if_neg (by omega)
    have e2 : mst k = 0 := by unfold mst; rw [if_neg (by omega), if_neg (by omega)]
    rw [e1, e2]
    clear e1 e2
    have n1 : ¬ k = 1 := by omega
    have n2 : ¬ k = 2 := by omega
    have n3 : ¬ k = 3 := by omega
    have n4 : ¬ k = 4 := by omega
    have n5 : ¬ k = 5 := by omega
    have n6 : ¬ k = 6 := by omega
    have n7 : ¬ k = 7 := by omega
    have n8 : ¬ k = 8 := by omega
    have n9 : ¬ k = 9 := by omega
    have n10 : ¬ k = 10 := by omega
    have n11 : ¬ k = 11 := by omega
    have n12 : ¬ k = 12 := by omega
    have n13 : ¬ k = 13 := by omega
    have n14 : ¬ k = 14 := by omega
    have n15 : ¬ k = 15 := by omega
    have n16 : ¬ k = 16 := by omega
    have n17 : ¬ k = 17 := by omega
    have n18 : ¬ k = 18 := by omega
    have n19 : ¬ k = 19 := by omega
    have n20 : ¬ k = 20 := by omega
    have n21 : ¬ k = 21 := by omega
    have n22 : ¬ k = 22 := by omega
    have n23 : ¬ k = 23 := by omega
    clear hk
  all_goals
    go_enter Try.func89, Try.ntmps89
    go_wp2
    go_ret2
    exact ⟨rfl, rfl⟩

set_option maxRecDepth 100000 in
set_option maxHeartbeats 400000 in
theorem fnKind (k : Int) (w : World) : Calls Try.prog 88 #[.int .i64 k] w fun e w' => e = .returned (.int .i64 (fk k)) ∧ w = w' := by
  unfold fk
  by_cases h0 : k < 1
  · rw [if_pos h0]
    go_enter Try.func88, Try.ntmps88
    go_wp2
    go_ret
    exact ⟨rfl, rfl⟩
  rw [if_neg h0]
  by_cases h1 : k ≤ 8
  · rw [if_pos h1]
    go_enter Try.func88, Try.ntmps88
    go_wp2
    go_ret
    exact ⟨rfl, rfl⟩
  rw [if_neg h1]
  by_cases h2 : k ≤ 12
  · rw [if_pos h2]
    go_enter Try.func88, Try.ntmps88
    go_wp2
    go_ret
    exact ⟨rfl, rfl⟩
  rw [if_neg h2]
  by_cases h3 : k ≤ 15
  · rw [if_pos h3]
    go_enter Try.func88, Try.ntmps88
    go_wp2
    go_ret
    exact ⟨rfl, rfl⟩
  rw [if_neg h3]
  by_cases h4 : k ≤ 19
  · rw [if_pos h4]
    go_enter Try.func88, Try.ntmps88
    go_wp2
    go_ret
    exact ⟨rfl, rfl⟩
  rw [if_neg h4]
  by_cases h5 : k ≤ 23
  · rw [if_pos h5]
    go_enter Try.func88, Try.ntmps88
    go_wp2
    go_ret
    exact ⟨rfl, rfl⟩
  rw [if_neg h5]
  go_enter Try.func88, Try.ntmps88
  go_wp2
  go_ret
  exact ⟨rfl, rfl⟩
/-- what is wrong with a function -/
def fnE (k a : Int) : Int := if fk k = 0 ∨ a < lst k ∨ mst k < a then 160 else 0
set_option maxRecDepth 100000 in
set_option maxHeartbeats 400000 in
theorem fnCheck (k a : Int) (w : World) : Calls Try.prog 87 #[fnV k a] w fun e w' => e = .returned (.int .i64 (fnE k a)) ∧ Ext w w' := by
  have HB := Lib.hid (fun w => fnBounds k w)
  have HK := Lib.hid (fun w => fnKind k w)
  have HX0 := Lib.hid ((Ext.refl w).alloc (.cells #[.int .i64 k, .int .i64 a] 38))
  have hb := Blk.new w 38 #[.int .i64 k, .int .i64 a]
  have c0 : (w.alloc (.cells #[.int .i64 k, .int .i64 a] 38)).cell? ⟨w.heap.size, 0, none⟩ = some (.int .i64 k) := hb.cell 0
  have c1 : (w.alloc (.cells #[.int .i64 k, .int .i64 a] 38)).cell? ⟨w.heap.size, 1, none⟩ = some (.int .i64 a) := hb.cell 1
  clear hb
  have HQ := Lib.hid (show (fk k = 0 → fnE k a = 160) ∧ (a < lst k → fnE k a = 160) ∧ (mst k < a → fnE k a = 160) ∧ (¬ fk k = 0 → ¬ a < lst k → ¬ mst k < a → fnE k a = 0) from ⟨fun h => if_pos (.inl h), fun h => if_pos (.inr (.inl h)), fun h => if_pos (.inr (.inr h)), fun h1 h2 h3 => if_neg fun q => q.elim h1 fun q => q.elim h2 h3⟩)
  generalize fnE k a = er at *
  generalize lst k = lo at *
  generalize mst k = hi at *
  generalize fk k = f at *
  go_enter Try.func87, Try.ntmps87
  go_upto_region 1 with fail
  generalize w.heap.size = p at *
  generalize w.alloc (.cells #[.int .i64 k, .int .i64 a] 38) = w0 at *
  go_wp2_with fail
  refine (HB.out _).mono ?_
  rintro e w' ⟨rfl, rfl⟩
  go_wp2_with fail
  refine (HK.out _).mono ?_
  rintro e w' ⟨rfl, rfl⟩
  by_cases h1 : f = 0
  · have HE := Lib.hid (HQ.out.1 h1)
    go_wp2
    go_ret
    exact ⟨by rw [HE.out]; rfl, HX0.out⟩
  by_cases h2 : a < lo
  · have HE := Lib.hid (HQ.out.2.1 h2)
    have hb : (f == 0) = false := by simpa using h1
    go_wp2
    go_ret
    exact ⟨by rw [HE.out]; rfl, HX0.out⟩
  by_cases h3 : hi < a
  · have HE := Lib.hid (HQ.out.2.2.1 h3)
    have hb : (f == 0) = false := by simpa using h1
    go_wp2
    go_ret
    exact ⟨by rw [HE.out]; rfl, HX0.out⟩
  have HE := Lib.hid (HQ.out.2.2.2 h1 (by omega) (by omega))
  have hb : (f == 0) = false := by simpa using h1
  clear h1
  go_wp2
  go_ret
  exact ⟨by rw [HE.out]; rfl, HX0.out⟩
theorem fam_e (k a : Int) : fam k a = if fnE k a = 0 then fk k else 0 := by
  unfold fam fnE
  by_cases h1 : fk k = 0
  · rw [h1]; simp
  by_cases h2 : a < lst k ∨ mst k < a
  · rw [if_pos h2, if_pos (show fk k = 0 ∨ a < lst k ∨ mst k < a from .inr h2)]; simp
  · rw [if_neg h2, if_neg (show ¬ (fk k = 0 ∨ a < lst k ∨ mst k < a) from fun q => q.elim h1 h2), if_pos rfl]
set_option maxRecDepth 100000 in
set_option maxHeartbeats 400000 in
theorem fnFamily (k a : Int) (w : World) : Calls Try.prog 86 #[fnV k a] w fun e w' => e = .returned (.int .i64 (fam k a)) ∧ Ext w w' := by
  have HC := Lib.hid (fun w => fnCheck k a w)
  have HK := Lib.hid (fun w => fnKind k w)
  have HX0 := Lib.hid ((Ext.refl w).alloc (.cells #[.int .i64 k, .int .i64 a] 38))
  have HB := Lib.hid (Blk.new w 38 #[.int .i64 k, .int .i64 a])
  have HQ := Lib.hid (fam_e k a)
  generalize fam k a = fm at *
  generalize fnE k a = er at *
  generalize fk k = f at *
  go_enter Try.func86, Try.ntmps86
  go_upto_region 1 with fail
  generalize w.heap.size = p at *
  generalize w.alloc (.cells #[.int .i64 k, .int .i64 a] 38) = w0 at *
  have c0 : w0.cell? ⟨p, 0, none⟩ = some (.int .i64 k) := HB.out.cell 0
  have c1 : w0.cell? ⟨p, 1, none⟩ = some (.int .i64 a) := HB.out.cell 1
  go_wp2_with fail
  refine (HC.out _).mono ?_
  rintro e w1 ⟨rfl, he1⟩
  have d0 := he1.cell c0
  have HX1 := Lib.hid (HX0.out.trans he1)
  clear he1 c0 c1
  by_cases h : er = 0
  · rw [if_pos h] at HQ
    subst h
    go_wp2_with fail
    refine (HK.out _).mono ?_
    rintro e w' ⟨rfl, rfl⟩
    go_wp2
    go_ret
    exact ⟨by rw [HQ.out]; rfl, HX1.out⟩
  · rw [if_neg h] at HQ
    go_wp2
    go_ret
    exact ⟨by rw [HQ.out]; rfl, HX1.out⟩
end Go.Proofs.Ytpmikcklkddocaa
