/-
  What an argument that is a slice of slices is to the walks: rows of bytes.
-/
import Derived.Test.YtklnbmcfnnmliaaDoorOpen
import Derived.Test.YtklnbmcfnnmliaaDoorRowS
import Derived.Deep.Matrix
namespace Go.Ox
open Go.ChangeShapes Go.WideShapes Go.ChangeAt Go.RowKit

theorem add_plain {w : World} {x : Addr} {j : Nat} {u : Value} (hs : x.spot = none) (h : w.cell? (x.add j) = some u) : x.spot = none ∧ w.cell? ⟨x.block, x.off + j, none⟩ = some u := by
  obtain ⟨b, o, s⟩ := x
  simp only at hs; subst hs
  refine ⟨rfl, ?_⟩
  unfold Addr.add at h
  split at h
  · rename_i h0; subst h0; simpa using h
  · exact h
theorem add_zero {w : World} {x : Addr} {u : Value} (h : w.cell? (x.add 0) = some u) : x.spot = none := by
  have := World.cell?_spot h
  simpa [Addr.add] using this

section
variable {H : Type} {enc : TypeId × Value → H} {P : Program} {t e q : TypeId} {W : World}
theorem rbb_of_trod (ht : P.underlying t = some (.slice e)) (he : P.underlying e = some (.slice q)) (hq : P.underlying q = some (.int .u8)) (ce : P.cellsOf e = 1) (cq : P.cellsOf q = 1) {v : Value} {d : DataW H} {p : List MemPlace} {r : Reach} {b0 base : Nat}
    (hv : Value.okWide P W r b0 t v) (h : DataW.Trod enc P W base (fun _ => true) true t v d p) : ∃ ls : List (List UInt8), RBB W v ls := by
  obtain ⟨a, len, cap, rfl⟩ := okWide_slice ht hv
  obtain ⟨fuel, hf⟩ := h
  rcases Go.Deep.open_int_rows ht he hq ce cq hf with ⟨hcs, _⟩ | ⟨x, l, c, A, L, C, Z, hcs, _, hl, hm, _, hat⟩
  · simp [Value.cells] at hcs
    obtain ⟨rfl, rfl, rfl⟩ := hcs
    exact ⟨[], Rws.nil _ _⟩
  · simp [Value.cells] at hcs
    obtain ⟨rfl, rfl, rfl⟩ := hcs
    refine ⟨(List.range len).map fun r => ((Z r).take (L r)).map fun z => UInt8.ofNat z.toNat, (List.range len).map fun r => Value.slice (A r) (L r) (C r), ⟨some x, cap, by simp, by simp, by simpa using hl, hm, (fun h => by cases h), fun ad ha j u hu => ?_⟩, fun k hk => ?_⟩
    · injection ha with ha; subst ha
      have hj : j < len := by
        have h2 := (List.getElem?_eq_some_iff.1 hu).1
        simpa using h2
      rw [List.getElem?_map, List.getElem?_range hj] at hu
      simp only [Option.map_some, Option.some.injEq] at hu
      subst hu
      exact add_plain (add_zero (hat 0 (by omega)).1) (hat j (by omega)).1
    · have hkl : k < len := by simpa using hk
      obtain ⟨_, h2, h3, h4, h5, h6, h7⟩ := hat k (by omega)
      refine ⟨.slice (A k) (L k) (C k), by simp [hkl], ?_⟩
      simp only [List.getElem_map, List.getElem_range, byteRow]
      have hlen : (((Z k).take (L k)).map fun z => UInt8.ofNat z.toNat).length = L k := by rw [List.length_map, List.length_take, h4]; omega
      refine ⟨A k, C k, by rw [hlen], by simp, by rw [hlen]; exact h2, h3, h6, fun ad ha j u hu => ?_⟩
      obtain ⟨_, h8⟩ := h7 ad ha
      rw [List.getElem?_map, List.getElem?_map, List.getElem?_take] at hu
      split at hu
      · rename_i hj
        have hjc : j < (Z k).length := by rw [h4]; omega
        rw [List.getElem?_eq_getElem hjc] at hu
        simp only [Option.map_some, Option.some.injEq] at hu
        have h9 := h8 j (by omega)
        rw [List.getD_eq_getElem?_getD, List.getElem?_eq_getElem hjc, Option.getD_some] at h9
        obtain ⟨hs, hcell⟩ := add_plain (add_zero (h8 0 (by omega))) h9
        refine ⟨hs, ?_⟩
        rw [hcell, ← hu]
        have hb := bounds_u8 (h5 _ (List.getElem_mem hjc))
        unfold byteV
        rw [n8_of (by omega)]
        congr 2; omega
      · simp at hu
end
end Go.Ox
