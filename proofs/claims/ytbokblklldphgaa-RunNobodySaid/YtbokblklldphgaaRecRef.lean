/-
  The walks of the document's answer on records: may, in order by halves.
-/
import Derived.Test.YtbokblklldphgaaRecSort
import Derived.Test.YtbokblklldphgaaSlcB
import Derived.Test.YtbokblklldphgaaEff2
import Derived.Test.YtbokblklldphgaaMem
import Derived.Test.YtbokblklldphgaaApp0
namespace Go.Proofs.Ytbokblklldphgaa
open Go.RowKit Go.Ox Go.Shelf
attribute [local irreducible] OP RP
set_option linter.unusedVariables false
set_option linter.unusedSimpArgs false

/-- a slice's length -/
def slLen : Value → Nat
  | .slice _ n _ => n
  | _ => 0
unseal RP in
theorem RP.lo {t e : TypeId} {z : Value} {bytes c : Nat} {P : Program} {A : Option Addr} {l : List (Int × Int)} (el : Elem P t e z 2 bytes) {w : World} (h : RP w (.slice A l.length c) l) {k : Nat} (hk : k ≤ l.length) :
    ∃ A', (∀ w', (Instr.slice t (.slice A l.length c) (some (.int .i64 (k : Int))) none none).run P w' = .ok (.slice A' (l.length - k) (c - k)) w') ∧ RP w (.slice A' (l.length - k) (c - k)) (l.drop k) := by
  obtain ⟨A', h1, h2⟩ := Rd.lo el h hk (k : Int) rfl
  rw [pV_drop] at h2
  refine ⟨A', h1, ?_⟩
  unfold RP
  rw [List.length_drop]
  exact h2
unseal RP in
theorem RP.hi {t e : TypeId} {z : Value} {bytes c : Nat} {P : Program} {A : Option Addr} {l : List (Int × Int)} (el : Elem P t e z 2 bytes) {w : World} (h : RP w (.slice A l.length c) l) {k : Nat} (hk : k ≤ l.length) :
    (∀ w', (Instr.slice t (.slice A l.length c) none (some (.int .i64 (k : Int))) none).run P w' = .ok (.slice A k c) w') ∧ RP w (.slice A k c) (l.take k) := by
  obtain ⟨A0, c0, he, h⟩ := h
  injection he with h1 h2 h3
  subst h1; subst h3
  obtain ⟨i, hi, hz, hs, hb⟩ := el.info
  have hnc := h.nc
  refine ⟨fun w' => ?_, ?_⟩
  · have : ((k : Int) ≤ (c : Int)) := by omega
    simp [Instr.slice, run_underlying el.under, Instr.sliceBounds, run_sliceBound w' .i64 (k : Int) c .sliceAcap (by omega) this, sizeOf, typeInfo, hi]
    cases A <;> simp [Addr.add]
  · refine ⟨A, c, ?_, ?_⟩
    · rw [List.length_take, Nat.min_eq_left hk]
    · rw [List.length_take, Nat.min_eq_left hk, ← pV_take]
      exact h.take hk
unseal RP in
theorem RP.lo1 {t e : TypeId} {z : Value} {bytes c : Nat} {P : Program} {A : Option Addr} {l : List (Int × Int)} (el : Elem P t e z 2 bytes) {w : World} (h : RP w (.slice A l.length c) l) (hk : 1 ≤ l.length) :
    ∃ A', (∀ w', (Instr.slice t (.slice A l.length c) (some (.int .i64 1)) none none).run P w' = .ok (.slice A' (l.length - 1) (c - 1)) w') ∧ RP w (.slice A' (l.length - 1) (c - 1)) (l.drop 1) := by
  obtain ⟨A', h1, h2⟩ := Rd.lo el h hk (1 : Int) rfl
  have h3 := pV_drop l 1
  rw [h3] at h2
  refine ⟨A', h1, ?_⟩
  unfold RP
  rw [List.length_drop]
  exact h2
theorem own_lit0 (w : World) (E : Nat) : OP E w.heap.size (w.alloc (.cells #[] E)) (.slice (some ⟨w.heap.size, 0, none⟩) 0 0) [] := by
  unfold OP
  exact World.ownsRow_lit w _ 0 (Nat.le_refl _) (by unfold maxLen; omega) rfl
end Go.Proofs.Ytbokblklldphgaa
