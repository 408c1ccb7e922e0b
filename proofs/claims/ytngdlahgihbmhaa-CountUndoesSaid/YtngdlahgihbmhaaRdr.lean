/-
  A block that changes: what a call on it leaves of the rest; a reader's block: the bytes not yet read, and a mark.
-/
import Derived.Test.YtngdlahgihbmhaaMem
namespace Go.Ox
open Go.RowKit

/-- only the block g changed, and the integers in it did not -/
structure ExtG (g : Nat) (w w' : World) : Prop where
  grown : w.grownBy w' (some g)
  ints : ∀ a k z, w.cell? a = some (.int k z) → w'.cell? a = some (.int k z)

section
variable {g : Nat} {w w' a b c : World}
theorem ExtG.refl (g : Nat) (w : World) : ExtG g w w := ⟨World.grownBy.refl _ _, fun _ _ _ h => h⟩
theorem ExtG.trans (h : ExtG g a b) (k : ExtG g b c) : ExtG g a c := ⟨h.grown.trans k.grown, fun x y z hx => k.ints x y z (h.ints x y z hx)⟩
theorem ExtG.of (h : Ext a b) : ExtG g a b := ⟨⟨h.os, h.tape, h.output, h.size, fun _ hk _ => h.block hk⟩, fun _ _ _ hx => h.cell hx⟩
theorem ExtG.size (h : ExtG g a b) : a.heap.size ≤ b.heap.size := h.grown.size
theorem ExtG.drew (h : ExtG g a b) : ExtG g a b.drew := h.trans (ExtG.of (Ext.refl b).drew)
theorem ExtG.drewN (h : ExtG g a b) (n : Nat) : ExtG g a (b.drewN n) := h.trans (ExtG.of ((Ext.refl b).drewN n))
/-- seen from a world in which g was not yet there -/
theorem Ext.andG {w0 : World} (h : Ext w0 a) (k : ExtG g a b) (hg : w0.heap.size ≤ g) : Ext w0 b :=
  h.grown k.grown fun j hj => by injection hj with hj; omega
theorem RdA.extG {size n c : Nat} {A : Option Addr} {l : List UInt8} (h : RdA w size A n c (l.map byteV)) (he : ExtG g w w') : RdA w' size A n c (l.map byteV) :=
  ⟨h.len, h.nc, h.cm, h.nil, fun ad ha j u hu => ⟨(h.at_ ad ha j u hu).1, by
    obtain ⟨b, _, rfl⟩ := List.mem_map.1 (List.mem_of_getElem? hu)
    exact he.ints _ _ _ (h.at_ ad ha j _ hu).2⟩⟩
theorem RB.extG {v : Value} {l : List UInt8} (h : RB w v l) (he : ExtG g w w') : RB w' v l := by
  obtain ⟨A, c, rfl, h⟩ := h
  exact ⟨A, c, rfl, h.extG he⟩
theorem Blk.extG {t : TypeId} {cs : Array Value} {k : Nat} (h : Blk w k t cs) (he : ExtG g w w') (hk : k ≠ g) : Blk w' k t cs :=
  (he.grown.block k h.lt (fun e => hk (by injection e))).trans h
theorem OB.extG {E base : Nat} {v : Value} {l : List UInt8} (h : OB E base w v l) (he : ExtG g w w') (hv : v.ownBlock ≠ some g) : OB E base w' v l :=
  World.ownsRow.kept h he.grown (by
    cases hq : v.ownBlock with
    | none => simp
    | some k => simp; intro e; exact hv (by rw [hq, e]))
/-- a store into a cell that holds no integer -/
theorem ExtG.store {t : TypeId} {cs : Array Value} (h : Blk w g t cs) {i : Nat} (hi : ∀ k z, cs[i]? ≠ some (.int k z)) (u : Value) : ExtG g w (w.setCell ⟨g, i, none⟩ u) := by
  refine ⟨⟨rfl, rfl, rfl, by simp [World.setCell], fun k _ hne => Below.heap_setCell w _ u k (fun e => hne (by rw [e]))⟩, fun a k z ha => ?_⟩
  by_cases hb : a.block = g
  · have hh : w.heap[a.block]? = some (.cells cs t (0, 0)) := by rw [hb]; exact h
    have h2 : (w.setCell ⟨g, i, none⟩ u).heap[a.block]? = some (.cells (cs.setIfInBounds i u) t (0, 0)) := by rw [hb]; exact h.set_ i u
    obtain ⟨ab, ao, as⟩ := a
    simp only at hh h2
    cases as with
    | none =>
      simp only [World.cell?, hh] at ha
      simp only [World.cell?, h2]
      by_cases hai : ao = i
      · subst hai; exact absurd ha (hi _ _)
      · simpa [Array.getElem?_setIfInBounds, Ne.symm hai] using ha
    | some s => simp [World.cell?, hh] at ha
  · exact (World.cell?_of_block (Below.heap_setCell w _ u a.block hb)).trans ha
end

/-- the block of a reader: a slice of the bytes that are left, and whether it is bad -/
def Rdr (T : TypeId) (w : World) (g : Nat) (l : List UInt8) (bad : Bool) : Prop :=
  ∃ A c, Blk w g T #[.slice A l.length c, .bool bad] ∧ RB w (.slice A l.length c) l

section
variable {T : TypeId} {g : Nat} {w w' : World} {l : List UInt8} {bad : Bool}
theorem Rdr.ext (h : Rdr T w g l bad) (he : Ext w w') : Rdr T w' g l bad := by
  obtain ⟨A, c, h1, h2⟩ := h
  exact ⟨A, c, h1.ext he, h2.ext he⟩
theorem Rdr.extG {g' : Nat} (h : Rdr T w g l bad) (he : ExtG g' w w') (hg : g ≠ g') : Rdr T w' g l bad := by
  obtain ⟨A, c, h1, h2⟩ := h
  exact ⟨A, c, h1.extG he hg, h2.extG he⟩
theorem Rdr.lt (h : Rdr T w g l bad) : g < w.heap.size := by
  obtain ⟨A, c, h1, h2⟩ := h
  exact h1.lt
end
theorem Rdr.mark {T : TypeId} {w : World} {g : Nat} {l : List UInt8} {bad : Bool} (h : Rdr T w g l bad) : w.cell? ⟨g, 1, none⟩ = some (.bool bad) ∧ w.frozen? ⟨g, 1, none⟩ = false ∧ w.frozen? ⟨g, 0, none⟩ = false := by
  obtain ⟨A, c, h1, h2⟩ := h
  exact ⟨h1.cell 1, h1.frozen 1, h1.frozen 0⟩
theorem Rdr.setMark {T : TypeId} {w : World} {g : Nat} {l : List UInt8} {bad : Bool} (h : Rdr T w g l bad) (b : Bool) : Rdr T (w.setCell ⟨g, 1, none⟩ (.bool b)) g l b ∧ ExtG g w (w.setCell ⟨g, 1, none⟩ (.bool b)) := by
  obtain ⟨A, c, h1, h2⟩ := h
  have he := ExtG.store h1 (i := 1) (by intro k z; simp) (.bool b)
  exact ⟨⟨A, c, h1.set_ 1 (.bool b), h2.extG he⟩, he⟩

theorem Rdr.open_ {T : TypeId} {w : World} {g : Nat} {l : List UInt8} {bad : Bool} (h : Rdr T w g l bad) : ∃ A c, RB w (.slice A l.length c) l ∧ w.cell? ⟨g, 0, none⟩ = some (.slice A l.length c) ∧ w.cell? ⟨g, 1, none⟩ = some (.bool bad) ∧ w.frozen? ⟨g, 1, none⟩ = false ∧ w.frozen? ⟨g, 0, none⟩ = false := by
  obtain ⟨A, c, h1, h2⟩ := h
  exact ⟨A, c, h2, h1.cell 0, h1.cell 1, h1.frozen 1, h1.frozen 0⟩
theorem Rdr.setRest {T : TypeId} {w : World} {g : Nat} {l l' : List UInt8} {bad : Bool} (h : Rdr T w g l bad) {A' : Option Addr} {n c' : Nat} (h' : RB w (.slice A' n c') l') :
    Rdr T (w.setCell ⟨g, 0, none⟩ (.slice A' n c')) g l' bad ∧ ExtG g w (w.setCell ⟨g, 0, none⟩ (.slice A' n c')) := by
  obtain ⟨A, c, h1, h2⟩ := h
  have he := ExtG.store h1 (i := 0) (by intro k z; simp) (.slice A' n c')
  obtain ⟨A2, c2, e, hr⟩ := h'
  injection e with e1 e2 e3
  subst e1 e2 e3
  exact ⟨⟨_, _, h1.set_ 0 _, RB.extG ⟨_, _, rfl, hr⟩ he⟩, he⟩
end Go.Ox
