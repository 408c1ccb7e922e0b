/-
  The statements of layer 4: MomentSteps.
-/
import Derived.Test.YtbcbhcohfbkijaaMomStepsA
import Derived.Test.YtbcbhcohfbkijaaMomStepsB
namespace Go.Proofs.Ytbcbhcohfbkijaa
open Go.RowKit Go.Ox Go.Shelf
attribute [local irreducible] OP RP OB RB
set_option linter.unusedSimpArgs false
set_option linter.unusedVariables false


theorem join_ahead (a b c : Mom.M) : Mom.ahead (joinM a b) c = (Mom.ahead a c && Mom.ahead b c) := by
  unfold Mom.ahead joinM
  rw [Bool.eq_iff_iff]
  simp only [Bool.and_eq_true, decide_eq_true_eq]
  omega
theorem ahead_meet (a b c : Mom.M) : Mom.ahead c (meetM a b) = (Mom.ahead c a && Mom.ahead c b) := by
  unfold Mom.ahead meetM
  rw [Bool.eq_iff_iff]
  simp only [Bool.and_eq_true, decide_eq_true_eq]
  omega
theorem steps_any (a b c : Mom.M) (w : World) :
    Calls Try.prog 4 #[mV a, mV b, mV c] w fun e w' => e = .returned (.bool true) ∧ Ext w w' := by
  have hj := join_ahead a b c
  have hm := ahead_meet a b c
  have ht := fun h1 h2 => Mom.ahead_trans (a := a) (b := b) (c := c) h1 h2
  cases hx : Mom.ahead a b <;> cases hy : Mom.ahead b c <;> cases hz : Mom.ahead a c <;> cases hp : Mom.ahead c a <;> rw [hz, hy] at hj <;> rw [hp] at hm
  · exact steps_ffff a b c _ _ _ _ _ w hx hy hz rfl rfl hp rfl hj hm
  · exact steps_ffft a b c _ _ _ _ _ w hx hy hz rfl rfl hp rfl hj hm
  · exact steps_fftf a b c _ _ _ _ _ w hx hy hz rfl rfl hp rfl hj hm
  · exact steps_fftt a b c _ _ _ _ _ w hx hy hz rfl rfl hp rfl hj hm
  · exact steps_ftff a b c _ _ _ _ _ w hx hy hz rfl rfl hp rfl hj hm
  · exact steps_ftft a b c _ _ _ _ _ w hx hy hz rfl rfl hp rfl hj hm
  · exact steps_fttf a b c _ _ _ _ _ w hx hy hz rfl rfl hp rfl hj hm
  · exact steps_fttt a b c _ _ _ _ _ w hx hy hz rfl rfl hp rfl hj hm
  · exact steps_tfff a b c _ _ _ _ _ w hx hy hz rfl rfl hp rfl hj hm
  · exact steps_tfft a b c _ _ _ _ _ w hx hy hz rfl rfl hp rfl hj hm
  · exact steps_tftf a b c _ _ _ _ _ w hx hy hz rfl rfl hp rfl hj hm
  · exact steps_tftt a b c _ _ _ _ _ w hx hy hz rfl rfl hp rfl hj hm
  · rw [ht hx hy] at hz; cases hz
  · rw [ht hx hy] at hz; cases hz
  · exact steps_tttf a b c _ _ _ _ _ w hx hy hz rfl rfl hp rfl hj hm
  · exact steps_tttt a b c _ _ _ _ _ w hx hy hz rfl rfl hp rfl hj hm
theorem momentSteps_law (w : World) (v : Value) (a : Mom.M) (hv : v = mV a) (u : Value) (b : Mom.M) (hu : u = mV b) (x : Value) (c : Mom.M) (hx : x = mV c) :
    Calls Try.prog 4 #[v, u, x] w fun e w' => e = .returned (.bool true) ∧ Ext w w' := by
  subst hv hu hx
  exact steps_any a b c w
end Go.Proofs.Ytbcbhcohfbkijaa
