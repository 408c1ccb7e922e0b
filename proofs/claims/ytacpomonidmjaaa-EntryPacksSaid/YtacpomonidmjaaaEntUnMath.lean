/-
  What the bytes of a pack are: plain law.
-/
import Derived.Test.YtacpomonidmjaaaEntPk
import Derived.Test.YtacpomonidmjaaaMomRead
import Derived.Test.YtacpomonidmjaaaRecRead
namespace Go.Proofs.Ytacpomonidmjaaa
open Go.RowKit Go.Ox
set_option linter.unusedVariables false

theorem mom_app {r : Int × Int} (h : Mom.ok r = true) (t : List UInt8) : Mo.readS ⟨Rec.recL r ++ t, false⟩ = ⟨t, false⟩ ∧ Mo.readV ⟨Rec.recL r ++ t, false⟩ = r ∧ Mo.readE ⟨Rec.recL r ++ t, false⟩ = 0 := by
  have hb := Ent.mok_bd h
  have e : Rec.recL r ++ t = Num.put r.1.toNat ++ (Num.put r.2.toNat ++ t) := by unfold Rec.recL; simp
  have n1 := Num.numP_put (n := r.1.toNat) (by omega) (Num.put r.2.toNat ++ t)
  have n2 := Num.numP_put (n := r.2.toNat) (by omega) t
  have hm : Mo.readM ⟨Rec.recL r ++ t, false⟩ = r := by
    unfold Mo.readM
    rw [e, n1]; simp only
    rw [n2]; simp only
    rw [Int.toNat_of_nonneg (by omega), Int.toNat_of_nonneg (by omega)]
  have hs : Mo.readS ⟨Rec.recL r ++ t, false⟩ = ⟨t, false⟩ := by
    unfold Mo.readS
    rw [e, n1]; simp only
    rw [n2]
  unfold Mo.readV Mo.readE
  rw [hs, hm, h]
  exact ⟨rfl, rfl, rfl⟩
theorem mom_canon {s : Num.St} (h : Mo.readE s = 0) : s.bad = false ∧ (Mo.readS s).bad = false ∧ Mom.ok (Mo.readV s) = true ∧ s.l = Rec.recL (Mo.readV s) ++ (Mo.readS s).l := by
  have hb : (Mo.readS s).bad = false := by
    cases q : (Mo.readS s).bad with
    | false => rfl
    | true => unfold Mo.readE at h; rw [if_pos q] at h; cases h
  have hk : Mom.ok (Mo.readM s) = true := by
    cases q : Mom.ok (Mo.readM s) with
    | true => rfl
    | false => unfold Mo.readE at h; rw [hb, q] at h; cases h
  have hv : Mo.readV s = Mo.readM s := by unfold Mo.readV; rw [hb, hk]; rfl
  unfold Mo.readS at hb
  obtain ⟨a1, a2, _⟩ := Num.numP_canon (s := (Num.numP s).1) (t := (Num.numP (Num.numP s).1).1) (n := (Num.numP (Num.numP s).1).2) rfl hb
  obtain ⟨b1, b2, _⟩ := Num.numP_canon (s := s) (t := (Num.numP s).1) (n := (Num.numP s).2) rfl a1
  refine ⟨b1, hb, by rw [hv]; exact hk, ?_⟩
  rw [hv, b2, a2]
  unfold Rec.recL Mo.readM Mo.readS
  simp
theorem mom_len (s : Num.St) : (Mo.readS s).l.length ≤ s.l.length := Nat.le_trans (Num.numP_len _) (Num.numP_len _)

/-- an entry is read: what is left, the entry, whether it may be -/
def unS (s : Num.St) : Num.St := Rec.readS (Mo.readS s)
def unV (s : Num.St) : Ent.E := (Mo.readV s, Rec.readV (Mo.readS s))
def unB (s : Num.St) : Prop := Mo.readE s = 0 ∧ Rec.readE (Mo.readS s) = 0
noncomputable instance (s : Num.St) : Decidable (unB s) := Classical.propDecidable _
theorem un_app {x : Ent.E} (h : Ent.okE x = 0) (t : List UInt8) : unS ⟨Ent.entL x ++ t, false⟩ = ⟨t, false⟩ ∧ unV ⟨Ent.entL x ++ t, false⟩ = x ∧ unB ⟨Ent.entL x ++ t, false⟩ := by
  obtain ⟨h1, h2⟩ := Ent.okE_0 h
  have ea : Ent.entL x ++ t = Rec.recL x.1 ++ (Rec.recL x.2 ++ t) := by unfold Ent.entL; simp
  obtain ⟨a1, a2, a3⟩ := mom_app h1 (Rec.recL x.2 ++ t)
  obtain ⟨b1, b2, b3⟩ := Rec.read_app h2 t
  unfold unS unV unB
  rw [ea, a1, a2, a3, b1, b2, b3]
  exact ⟨rfl, rfl, rfl, rfl⟩
theorem un_canon {s : Num.St} (h : unB s) : (unS s).bad = false ∧ Ent.okE (unV s) = 0 ∧ s.l = Ent.entL (unV s) ++ (unS s).l := by
  obtain ⟨a1, a2, a3, a4⟩ := mom_canon h.1
  obtain ⟨b1, b2, b3, b4⟩ := Rec.read_canon h.2
  refine ⟨b2, ?_, ?_⟩
  · unfold Ent.okE unV; rw [a3, b3]; rfl
  · rw [a4, b4]; unfold Ent.entL unV unS; simp
theorem un_less {s : Num.St} (h : unB s) : (unS s).l.length < s.l.length := by
  obtain ⟨_, h2, h3⟩ := un_canon h
  have := Ent.entL_len h2
  rw [h3, List.length_append]; omega
theorem un_st {s : Num.St} (h : unB s) : unS s = ⟨(unS s).l, false⟩ := by
  obtain ⟨h1, _, _⟩ := un_canon h
  cases q : unS s with
  | mk l b => rw [q] at h1; simp only at h1; rw [h1]
attribute [irreducible] unS unV unB
/-- the entries of these bytes, if they are any's -/
noncomputable def un (b : List UInt8) : Option (List Ent.E) :=
  if h : unB ⟨b, false⟩ then (un (unS ⟨b, false⟩).l).map (unV ⟨b, false⟩ :: ·) else if b = [] then some [] else none
termination_by b.length
decreasing_by exact un_less h
theorem un_step {b : List UInt8} (h : unB ⟨b, false⟩) : un b = (un (unS ⟨b, false⟩).l).map (unV ⟨b, false⟩ :: ·) := by rw [un, dif_pos h]
theorem un_none {b : List UInt8} (hne : b ≠ []) (h : ¬ unB ⟨b, false⟩) : un b = none := by rw [un, dif_neg h, if_neg hne]
theorem un_nil : un [] = some [] := by
  have : ¬ unB ⟨[], false⟩ := fun h => by have := un_less h; simp at this
  rw [un, dif_neg this, if_pos rfl]
theorem un_flat : ∀ {l : List Ent.E}, (∀ x ∈ l, Ent.okE x = 0) → un (l.flatMap Ent.entL) = some l
  | [], _ => un_nil
  | x :: l, h => by
    obtain ⟨h1, h2, h3⟩ := un_app (h x List.mem_cons_self) (l.flatMap Ent.entL)
    rw [List.flatMap_cons, un_step h3, h1, h2]
    simp only
    rw [un_flat fun y hy => h y (List.mem_cons_of_mem _ hy)]
    rfl
theorem un_back : ∀ (n : Nat) {b : List UInt8} {l : List Ent.E}, b.length ≤ n → un b = some l → (∀ x ∈ l, Ent.okE x = 0) ∧ b = l.flatMap Ent.entL := by
  intro n
  induction n with
  | zero =>
    intro b l hn h
    have hb : b = [] := List.eq_nil_of_length_eq_zero (by omega)
    subst hb
    rw [un_nil] at h
    injection h with h
    subst h
    exact ⟨fun _ hx => (by cases hx), rfl⟩
  | succ n ih =>
    intro b l hn h
    by_cases hB : unB ⟨b, false⟩
    · rw [un_step hB] at h
      obtain ⟨h1, h2, h3⟩ := un_canon hB
      have hl := un_less hB
      simp only at h3 hl
      cases q : un (unS ⟨b, false⟩).l with
      | none => rw [q] at h; cases h
      | some r =>
        rw [q] at h
        injection h with h
        subst h
        obtain ⟨k1, k2⟩ := ih (by omega) q
        refine ⟨fun x hx => ?_, ?_⟩
        · rcases List.mem_cons.1 hx with rfl | hx
          · exact h2
          · exact k1 x hx
        · rw [List.flatMap_cons, ← k2]; exact h3
    · by_cases hb : b = []
      · subst hb
        rw [un_nil] at h
        injection h with h
        subst h
        exact ⟨fun _ hx => (by cases hx), rfl⟩
      · rw [un_none hb hB] at h; cases h
/-- how far the reading has come -/
structure UnR (b : List UInt8) (out : List Ent.E) (rest : List UInt8) : Prop where
  eq : un b = (un rest).map (out ++ ·)
  len : out.length + rest.length ≤ b.length
theorem UnR.start (b : List UInt8) : UnR b [] b := ⟨by cases un b <;> simp, by simp⟩
theorem UnR.step {b : List UInt8} {out : List Ent.E} {rest : List UInt8} (h : UnR b out rest) (hB : unB ⟨rest, false⟩) : UnR b (out ++ [unV ⟨rest, false⟩]) (unS ⟨rest, false⟩).l := by
  have hl := un_less hB
  simp only at hl
  refine ⟨?_, by have := h.len; rw [List.length_append, List.length_singleton]; omega⟩
  rw [h.eq, un_step hB]
  cases un (unS ⟨rest, false⟩).l with
  | none => rfl
  | some r => simp
theorem UnR.fail {b : List UInt8} {out : List Ent.E} {rest : List UInt8} (h : UnR b out rest) (hne : rest ≠ []) (hB : ¬ unB ⟨rest, false⟩) : un b = none := by rw [h.eq, un_none hne hB]; rfl
theorem UnR.done {b : List UInt8} {out : List Ent.E} (h : UnR b out []) : un b = some out := by rw [h.eq, un_nil]; simp
noncomputable def unE (b : List UInt8) : Int := if 43 < b.length then 3 else if (un b).isSome = true then 0 else 10
noncomputable def unL (b : List UInt8) : List Ent.E := if 43 < b.length then [] else (un b).getD []
theorem unL_long {b : List UInt8} (h : 43 < b.length) : unE b = 3 ∧ unL b = [] := by unfold unE unL; rw [if_pos h, if_pos h]; exact ⟨rfl, rfl⟩
theorem unL_none {b : List UInt8} (h : ¬ 43 < b.length) (hn : un b = none) : unE b = 10 ∧ unL b = [] := by unfold unE unL; rw [if_neg h, if_neg h, hn]; exact ⟨rfl, rfl⟩
theorem unL_some {b : List UInt8} {l : List Ent.E} (h : ¬ 43 < b.length) (hn : un b = some l) : unE b = 0 ∧ unL b = l := by unfold unE unL; rw [if_neg h, if_neg h, hn]; exact ⟨rfl, rfl⟩
end Go.Proofs.Ytacpomonidmjaaa
