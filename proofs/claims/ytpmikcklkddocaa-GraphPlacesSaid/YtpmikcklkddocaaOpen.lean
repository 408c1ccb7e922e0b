/-
  What an argument that reads as data is to the walks: bytes, numbers.
-/
import Derived.Test.YtpmikcklkddocaaMem
import Derived.ProofKit
import Derived.OpenShut
import Derived.ShutString
import Derived.Below
namespace Go.Ox
open Go.ChangeShapes Go.WideShapes Go.ChangeAt Go.RowKit

section
variable {H : Type} {enc : TypeId × Value → H} {P : Program} {t e : TypeId} {W : World}

/-- a slice of integers that came in -/
theorem rd_of_trod {k : IntKind} (ht : P.underlying t = some (.slice e)) (he : P.underlying e = some (.int k)) (hc : P.cellsOf e = 1) {v : Value} {d : DataW H} {p : List MemPlace} {r : Reach} {b0 base : Nat} {sp : Nat → Bool} {held : Bool}
    (hv : Value.okWide P W r b0 t v) (h : DataW.Trod enc P W base sp held t v d p) :
    ∃ zs : List Int, Rd W 1 v zs.length (zs.map (Value.int k)) ∧ ∀ z ∈ zs, (Lit.int k z).wf = true := by
  obtain ⟨a, len, cap, rfl⟩ := okWide_slice ht hv
  obtain ⟨fuel, hf⟩ := h
  rcases open_ints ht he hc hf with ⟨hcs, _⟩ | ⟨x, l, c, zs, hcs, _, hl, hm, hz, _, hcell, hwz⟩
  · simp [Value.cells] at hcs
    obtain ⟨rfl, rfl, rfl⟩ := hcs
    exact ⟨[], Rd.nil _ _, by simp⟩
  · simp [Value.cells] at hcs
    obtain ⟨rfl, rfl, rfl⟩ := hcs
    have hlen : (zs.take len).length = len := by
      rw [List.length_take]
      split at hz <;> omega
    refine ⟨zs.take len, ⟨some x, cap, by rw [hlen], by simp, by rw [hlen]; exact hl, hm, (fun h => by cases h), fun ad ha j u hu => ?_⟩, fun z hz' => hwz z (List.mem_of_mem_take hz')⟩
    injection ha with ha; subst ha
    rw [List.getElem?_map, Option.map_eq_some_iff] at hu
    obtain ⟨z, hz', rfl⟩ := hu
    rw [List.getElem?_take] at hz'
    split at hz'
    · rename_i hj
      have hjl : j < zs.length := by
        rcases Nat.lt_or_ge j zs.length with h | h
        · exact h
        · rw [List.getElem?_eq_none h] at hz'; cases hz'
      have hcj := hcell j hjl
      have hg : zs.getD j 0 = z := by rw [List.getD_eq_getElem?_getD, hz']; rfl
      rw [hg] at hcj
      have hc0 := hcell 0 (by omega)
      have hs0 : x.spot = none := by
        have := World.cell?_spot hc0
        simpa [Addr.add] using this
      refine ⟨hs0, ?_⟩
      obtain ⟨b, o, s⟩ := x
      simp only at hs0; subst hs0
      unfold Addr.add at hcj
      split at hcj
      · rename_i h0; subst h0; simpa using hcj
      · exact hcj
    · cases hz'

/-- bytes that came in -/
theorem rb_of_trod (ht : P.underlying t = some (.slice e)) (he : P.underlying e = some (.int .u8)) (hc : P.cellsOf e = 1) {v : Value} {d : DataW H} {p : List MemPlace} {r : Reach} {b0 base : Nat} {sp : Nat → Bool} {held : Bool}
    (hv : Value.okWide P W r b0 t v) (h : DataW.Trod enc P W base sp held t v d p) : ∃ l : List UInt8, RB W v l := by
  obtain ⟨zs, hr, hw⟩ := rd_of_trod ht he hc hv h
  refine ⟨zs.map fun z => UInt8.ofNat z.toNat, ?_⟩
  unfold RB
  rw [List.length_map, List.map_map]
  have : (byteV ∘ fun z : Int => UInt8.ofNat z.toNat) = fun z => Value.int .u8 (n8 (UInt8.ofNat z.toNat)) := rfl
  rw [this]
  rw [show zs.map (fun z => Value.int .u8 (n8 (UInt8.ofNat z.toNat))) = zs.map (Value.int .u8) from List.map_congr_left fun z hz => by
    have := bounds_u8 (hw z hz)
    rw [n8_of (by omega)]
    congr 1; omega]
  exact hr
/-- the same, and how many elements its datum has -/
theorem rb_of_trod_sz (ht : P.underlying t = some (.slice e)) (he : P.underlying e = some (.int .u8)) (hc : P.cellsOf e = 1) {v : Value} {d : DataW H} {p : List MemPlace} {r : Reach} {b0 base : Nat}
    (hv : Value.okWide P W r b0 t v) (h : DataW.Trod enc P W base (fun _ => true) true t v d p) : ∃ l : List UInt8, RB W v l ∧ (l.length = 0 ∨ ∃ elems spare, d = .slice elems spare ∧ elems.length = l.length) := by
  obtain ⟨l, hl⟩ := rb_of_trod ht he hc hv h
  refine ⟨l, hl, ?_⟩
  obtain ⟨A, c, rfl, _⟩ := hl
  obtain ⟨fuel, hf⟩ := h
  rcases open_ints ht he hc hf with ⟨hcs, _⟩ | ⟨x, l', c', zs, hcs, _, hle, hm, hz, hx, _, _⟩
  · simp [Value.cells] at hcs
    exact .inl (by simp [hcs.2.1])
  · simp [Value.cells] at hcs
    obtain ⟨rfl, rfl, rfl⟩ := hcs
    refine .inr ⟨_, _, by rw [Prod.mk.injEq] at hx; exact hx.1, ?_⟩
    simp only [if_true] at hz
    simp [lits]; omega
theorem lt_of_trod {v : Value} {d : DataW H} {p : List MemPlace} {base : Nat} {sp : Nat → Bool} {held : Bool} (h : DataW.Trod enc P W base sp held t v d p) : ∀ x ∈ p, x.block < W.heap.size := by
  obtain ⟨m, hm⟩ := h
  exact DataW.trod_lt m _ _ _ hm
end
end Go.Ox
