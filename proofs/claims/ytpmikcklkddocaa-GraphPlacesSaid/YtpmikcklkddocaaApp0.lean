/-
  An append to an empty literal: nothing that was there changes.
-/
import Derived.Test.YtpmikcklkddocaaMem
namespace Go.Ox
open Go.RowKit

/-- v is an empty literal -/
def E0 (base : Nat) (e : TypeId) (v : Value) (w : World) : Prop := ∃ g, v = .slice (some ⟨g, 0, none⟩) 0 0 ∧ base ≤ g ∧ Blk w g e #[]
theorem E0.ext {base : Nat} {e : TypeId} {v : Value} {w w' : World} (h : E0 base e v w) (k : Ext w w') : E0 base e v w' := by
  obtain ⟨g, h1, h3, h2⟩ := h
  exact ⟨g, h1, h3, h2.ext k⟩
theorem E0.new {base : Nat} (e : TypeId) (w : World) (hb : base ≤ w.heap.size) : E0 base e (.slice (some ⟨w.heap.size, 0, none⟩) 0 0) (w.alloc (.cells #[] e)) := ⟨_, rfl, hb, Blk.new _ _ _⟩
/-- v is a slice of the call's own -/
def O0 (base e size n : Nat) (xs : List Value) (v : Value) (w : World) : Prop := w.ownsRow base e size v n xs
theorem O0.ext {base e size n : Nat} {xs : List Value} {v : Value} {w w' : World} (h : O0 base e size n xs v w) (k : Ext w w') : O0 base e size n xs v w' := ownsRow_ext h k

section
variable {P : Program} {t e : TypeId} {z : Value} {size bytes : Nat}
theorem run_app0 (el : Elem P t e z size bytes) (w : World) (ty : TypeId) (v : Value) {base : Nat} (h0 : E0 base e v w) (vx : Value) (m : Nat) (news : List Value) (hr : Rd w size vx m news) (h1 : ∀ u ∈ news, u.oneCell' = true)
    (hbytes : m * bytes ≤ 140737488355328) (hm : m ≤ maxLen) :
    ∃ v' w', (Builtin.append_ #[t, t] ty #[v, vx]).run P w = .ok v' w' ∧ O0 base e size m news v' w' ∧ Ext w w' := by
  obtain ⟨g, rfl, hbg, hb⟩ := h0
  obtain ⟨A, c, rfl, hr⟩ := hr
  obtain ⟨i, hi, hz, hs, hby⟩ := el.info
  have hown : w.ownsRow base e size (.slice (some ⟨g, 0, none⟩) 0 0) 0 [] :=
    ⟨by simp, .inr ⟨g, 0, #[], rfl, hbg, hb, Nat.le_refl _, by unfold maxLen; omega, by simp, by simp⟩⟩
  obtain ⟨v', w', hrun, ha⟩ := run_app el w ty base _ 0 [] hown A m c news hr h1 (by rw [Nat.zero_add]; exact hbytes) (by omega) (by have := hb.lt; omega)
  have ho := ha.own
  rw [Nat.zero_add, List.nil_append] at ho
  refine ⟨v', w', hrun, ho, ?_⟩
  rcases A with _ | ad
  · have hm0 : m = 0 := by have := hr.nil rfl; have := hr.nc; omega
    subst hm0
    have hq : (Builtin.append_ #[t, t] ty #[.slice (some ⟨g, 0, none⟩) 0 0, .slice none 0 c]).run P w = .ok (.slice (some ⟨g, 0, none⟩) 0 0) w := by
      simp [Builtin.append_, run_underlying el.under, sizeOf, typeInfo, hi, Builtin.lenOf, Builtin.firstCells, storeCells]
    rw [hq] at hrun
    injection hrun with _ h2
    subst h2
    exact Ext.refl _
  · by_cases hm0 : m = 0
    · subst hm0
      have hn : news = [] := List.eq_nil_of_length_eq_zero (by simpa using hr.len)
      subst hn
      have hq := run_append_room (P := P) w t ty e i el.under hi g 0 0 #[] hb ad 0 c [] (by simp) (fun j u hu => by simp at hu) h1 (by omega) (by simp)
      rw [hrun] at hq
      injection hq with _ h2
      subst h2
      simp only [List.append_nil]
      exact ⟨rfl, rfl, rfl, by simp, fun k hk => by
        by_cases hkg : k = g
        · subst hkg
          rw [setRow_heap w k #[] _ e (0, 0) hb]
          have : w.heap[k]? = _ := hb
          rw [this]; simp
        · exact setRow_other w g k _ hkg⟩
    · have hcells : ∀ j u, news[j]? = some u → w.cell? (ad.add j) = some u := fun j u hu => by
        obtain ⟨hs', this⟩ := hr.at_ _ rfl j u hu
        obtain ⟨b, o, s⟩ := ad
        simp only at hs'; subst hs'
        unfold Addr.add
        split
        · rename_i h0; subst h0; simpa using this
        · exact this
      subst hs
      subst hby
      have hq := run_append_grow (P := P) w t ty e i z el.under hi hz ⟨g, 0, none⟩ 0 0 [] (by simp) (fun j u hu => by simp at hu) ad m c news hr.len hcells (by omega) (by simp only [maxLen] at hm; omega) (growslice_fits (by omega) (by rw [Nat.zero_add]; exact hbytes))
      rw [hrun] at hq
      injection hq with _ h2
      subst h2
      exact (Ext.refl _).drew.alloc _

theorem wp_app0 {o : Oper} {a : Act} {K : Act → World → Prop} {Q : Exit → Act → World → Prop} (el : Elem P t e z size bytes) (w : World) (s x : Operand)
    (ho : o.op = .call { callee := .builtin .append, args := #[s, x], argTypes := #[t, t] }) (v : Value) (hs : a.eval s = v) {base : Nat} (h0 : E0 base e v w) (vx : Value) (m : Nat) (news : List Value) (hx : a.eval x = vx) (hr : Rd w size vx m news) (h1 : ∀ u ∈ news, u.oneCell' = true)
    (hbytes : m * bytes ≤ 140737488355328) (hm : m ≤ maxLen)
    (h : ∀ v' w', Ext w w' → O0 base e size m news v' w' → K (a.put o.dst v') w') : o.wp P a w K Q := by
  obtain ⟨v', w', hrun, h2, h3⟩ := run_app0 el w o.type v h0 vx m news hr h1 hbytes hm
  exact Go.Lib.wp_append_run w s x t t ho _ _ hs hx v' w' hrun (h v' w' h3 h2)
end
end Go.Ox
