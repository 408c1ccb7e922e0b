/-
  Worlds in which the blocks of a list changed, their integers not.
-/
import Derived.Test.YtngdlahgihbmhaaRdr
import Derived.Test.YtngdlahgihbmhaaEff
namespace Go.Ox
open Go.RowKit

/-- only the blocks of gs changed, and no integer did -/
structure ExtS (gs : List Nat) (w w' : World) : Prop where
  os : w'.os = w.os
  tape : w'.tape = w.tape
  output : w'.output = w.output
  size : w.heap.size ≤ w'.heap.size
  block : ∀ k, k < w.heap.size → k ∉ gs → w'.heap[k]? = w.heap[k]?
  ints : ∀ a k z, w.cell? a = some (.int k z) → w'.cell? a = some (.int k z)

section
variable {g : Nat} {gs : List Nat} {w w' a b c : World}
theorem ExtS.refl (gs : List Nat) (w : World) : ExtS gs w w := ⟨rfl, rfl, rfl, Nat.le_refl _, fun _ _ _ => rfl, fun _ _ _ h => h⟩
theorem ExtS.trans (h : ExtS gs a b) (k : ExtS gs b c) : ExtS gs a c :=
  ⟨k.os.trans h.os, k.tape.trans h.tape, k.output.trans h.output, Nat.le_trans h.size k.size, fun x hx hn => (k.block x (Nat.lt_of_lt_of_le hx h.size) hn).trans (h.block x hx hn), fun x y z hx => k.ints x y z (h.ints x y z hx)⟩
theorem ExtG.toS (h : ExtG g a b) (hg : g ∈ gs) : ExtS gs a b :=
  ⟨h.grown.os, h.grown.tape, h.grown.output, h.size, fun k hk hn => h.grown.block k hk (fun e => hn (by injection e with e; rw [e]; exact hg)), h.ints⟩
theorem ExtS.of (h : Ext a b) : ExtS gs a b := (ExtG.of (g := 0) h |> fun q => ⟨q.grown.os, q.grown.tape, q.grown.output, q.size, fun _ hk _ => h.block hk, q.ints⟩)
theorem Ext.andS {w0 : World} (h : Ext w0 a) (k : ExtS gs a b) (hg : ∀ g ∈ gs, w0.heap.size ≤ g) : Ext w0 b :=
  Below.trans h ⟨k.os, k.tape, k.output, k.size, fun x hx => k.block x (Nat.lt_of_lt_of_le hx h.size) (fun hm => by have := hg x hm; omega)⟩
theorem RdA.extS {size n c : Nat} {A : Option Addr} {l : List UInt8} (h : RdA w size A n c (l.map byteV)) (he : ExtS gs w w') : RdA w' size A n c (l.map byteV) :=
  ⟨h.len, h.nc, h.cm, h.nil, fun ad ha j u hu => ⟨(h.at_ ad ha j u hu).1, by
    obtain ⟨b, _, rfl⟩ := List.mem_map.1 (List.mem_of_getElem? hu)
    exact he.ints _ _ _ (h.at_ ad ha j _ hu).2⟩⟩
theorem RB.extS {v : Value} {l : List UInt8} (h : RB w v l) (he : ExtS gs w w') : RB w' v l := by
  obtain ⟨A, c, rfl, h⟩ := h
  exact ⟨A, c, rfl, h.extS he⟩
theorem Blk.extS {t : TypeId} {cs : Array Value} {k : Nat} (h : Blk w k t cs) (he : ExtS gs w w') (hk : k ∉ gs) : Blk w' k t cs := (he.block k h.lt hk).trans h
theorem Rdr.extS {T : TypeId} {l : List UInt8} {bad : Bool} (h : Rdr T w g l bad) (he : ExtS gs w w') (hg : g ∉ gs) : Rdr T w' g l bad := by
  obtain ⟨A, c, h1, h2⟩ := h
  exact ⟨A, c, h1.extS he hg, h2.extS he⟩
end
end Go.Ox
