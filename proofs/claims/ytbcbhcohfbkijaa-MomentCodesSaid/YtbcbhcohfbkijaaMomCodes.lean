/-
  The statement MomentCodes.
-/
import Derived.Test.YtbcbhcohfbkijaaMomLives
import Derived.Test.YtbcbhcohfbkijaaMomRead
import Derived.Test.YtbcbhcohfbkijaaMomPut2
import Derived.Test.YtbcbhcohfbkijaaMomPut
namespace Go.Proofs.Ytbcbhcohfbkijaa
open Go.RowKit Go.Ox
set_option linter.unusedVariables false
attribute [local irreducible] OB RB

/-- a moment's bytes, and what is wrong with it -/
def codeL (m : Mom.M) : List UInt8 := if Mom.ok m = true then Num.put m.1.toNat ++ Num.put m.2.toNat else []
def codeE (m : Mom.M) : Int := if Mom.ok m = true then 0 else 40
theorem mput_all (m : Mom.M) (w : World) : Calls Try.prog 30 #[mV m] w fun e w' => ∃ u, e = .returned (.tuple #[u, .int .i64 (codeE m)]) ∧ OB 5 w.heap.size w' u (codeL m) ∧ Ext w w' := by
  unfold codeL codeE
  cases h : Mom.ok m with
  | true =>
    have hb := ok_bd h
    obtain ⟨x, y⟩ := m
    obtain ⟨x, rfl⟩ : ∃ n : Nat, x = n := ⟨x.toNat, by simp only at hb; omega⟩
    obtain ⟨y, rfl⟩ : ∃ n : Nat, y = n := ⟨y.toNat, by simp only at hb; omega⟩
    simp only at hb
    refine (mput_any x y w (by omega) (by omega)).mono ?_
    rintro e w' ⟨v, rfl, ho, he⟩
    exact ⟨v, rfl, by simpa using ho, he⟩
  | false =>
    refine (mput_bad m w h).mono ?_
    rintro e w' ⟨rfl, he⟩
    exact ⟨_, rfl, OB.nilO _ _ _, he⟩
theorem rmput_all (m : Mom.M) (w : World) (h : Mom.ok m = true) : Calls Try.prog 34 #[mV m] w fun e w' => ∃ u, e = .returned u ∧ OB 5 w.heap.size w' u (codeL m) ∧ Ext w w' := by
  unfold codeL
  rw [if_pos h]
  have hb := ok_bd h
  obtain ⟨x, y⟩ := m
  obtain ⟨x, rfl⟩ : ∃ n : Nat, x = n := ⟨x.toNat, by simp only at hb; omega⟩
  obtain ⟨y, rfl⟩ : ∃ n : Nat, y = n := ⟨y.toNat, by simp only at hb; omega⟩
  simp only at hb
  refine (rmput_any x y w (by omega) (by omega)).mono ?_
  rintro e w' ⟨v, rfl, ho, he⟩
  exact ⟨v, rfl, by simpa using ho, he⟩
theorem code_len (m : Mom.M) : (codeL m).length ≤ 1000 := by
  unfold codeL
  cases h : Mom.ok m with
  | true =>
    have hb := ok_bd h
    have h1 := Num.put_le m.1.toNat
    have h2 := Num.put_le m.2.toNat
    have h3 := (Num.width_le 8 m.1.toNat (by omega)).2 (by omega)
    have h4 := (Num.width_le 8 m.2.toNat (by omega)).2 (by omega)
    simp; omega
  | false => simp
/-- what was put is read -/
theorem code_read (m : Mom.M) (h : Mom.ok m = true) : readV ⟨codeL m, false⟩ = m ∧ readE ⟨codeL m, false⟩ = 0 := by
  have hb := ok_bd h
  have e : codeL m = Num.put m.1.toNat ++ (Num.put m.2.toNat ++ []) := by unfold codeL; rw [if_pos h]; simp
  have n1 := Num.numP_put (n := m.1.toNat) (by omega) (Num.put m.2.toNat ++ [])
  have n2 := Num.numP_put (n := m.2.toNat) (by omega) []
  have hm : readM ⟨codeL m, false⟩ = m := by
    unfold readM
    rw [e, n1]
    simp only
    rw [n2]
    simp only
    rw [Int.toNat_of_nonneg (by omega), Int.toNat_of_nonneg (by omega)]
  have hs : (readS ⟨codeL m, false⟩).bad = false := by
    unfold readS
    rw [e, n1]
    simp only
    rw [n2]
  unfold readV readE
  rw [hs, hm, h]
  exact ⟨rfl, rfl⟩
end Go.Proofs.Ytbcbhcohfbkijaa
