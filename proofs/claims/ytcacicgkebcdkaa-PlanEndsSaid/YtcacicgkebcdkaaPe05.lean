/-
  Rdr, Pair, packed: what the claim needs of them.
-/
import Derived.Test.YtcacicgkebcdkaaPe02
import Derived.Test.YtcacicgkebcdkaaPe04
namespace Go.Ox
open Go.RowKit
structure ExtG (g : Nat) (w w' : World) : Prop where
  grown : w.grownBy w' (some g)
  ints : ∀ a k z, w.cell? a = some (.int k z) → w'.cell? a = some (.int k z)
section
variable {g : Nat} {w w' a b c : World}
theorem ExtG.refl (g : Nat) (w : World) : ExtG g w w := ⟨World.grownBy.refl _ _, fun _ _ _ h => h⟩
theorem ExtG.trans (h : ExtG g a b) (k : ExtG g b c) : ExtG g a c := ⟨h.grown.trans k.grown, fun x y z hx => k.ints x y z (h.ints x y z hx)⟩
theorem ExtG.of (h : Ext a b) : ExtG g a b := ⟨⟨h.os, h.tape, h.output, h.size, fun _ hk _ => h.block hk⟩, fun _ _ _ hx => h.cell hx⟩
theorem ExtG.size (h : ExtG g a b) : a.heap.size ≤ b.heap.size := h.grown.size
theorem ExtG.drew (h : ExtG g a b) : ExtG g a b.drew := h.trans (ExtG.of (Ext.refl b).drew)
theorem ExtG.drewN (h : ExtG g a b) (n : Nat) : ExtG g a (b.drewN n) := h.trans (ExtG.of ((Ext.refl b).drewN n))
theorem RdA.extG {size n c : Nat} {A : Option Addr} {l : List UInt8} (h : RdA w size A n c (l.map byteV)) (he : ExtG g w w') : RdA w' size A n c (l.map byteV) :=
  ⟨h.len, h.nc, h.cm, h.nil, fun ad ha j u hu => ⟨(h.at_ ad ha j u hu).1, by
    obtain ⟨b, _, rfl⟩ := List.mem_map.1 (List.mem_of_getElem? hu)
    exact he.ints _ _ _ (h.at_ ad ha j _ hu).2⟩⟩
theorem RB.extG {v : Value} {l : List UInt8} (h : RB w v l) (he : ExtG g w w') : RB w' v l := by
  obtain ⟨A, c, rfl, h⟩ := h
  exact ⟨A, c, rfl, h.extG he⟩
theorem Blk.extG {t : TypeId} {cs : Array Value} {k : Nat} (h : Blk w k t cs) (he : ExtG g w w') (hk : k ≠ g) : Blk w' k t cs :=
  (he.grown.block k h.lt (fun e => hk (by injection e))).trans h
theorem OB.extG {E base : Nat} {v : Value} {l : List UInt8} (h : OB E base w v l) (he : ExtG g w w') (hv : v.ownBlock ≠ some g) : OB E base w' v l :=
  World.ownsRow.kept h he.grown (by
    cases hq : v.ownBlock with
    | none => simp
    | some k => simp; intro e; exact hv (by rw [hq, e]))
theorem ExtG.store {t : TypeId} {cs : Array Value} (h : Blk w g t cs) {i : Nat} (hi : ∀ k z, cs[i]? ≠ some (.int k z)) (u : Value) : ExtG g w (w.setCell ⟨g, i, none⟩ u) := by
  refine ⟨⟨rfl, rfl, rfl, by simp [World.setCell], fun k _ hne => Below.heap_setCell w _ u k (fun e => hne (by rw [e]))⟩, fun a k z ha => ?_⟩
  by_cases hb : a.block = g
  · have hh : w.heap[a.block]? = some (.cells cs t (0, 0)) := by rw [hb]; exact h
    have h2 : (w.setCell ⟨g, i, none⟩ u).heap[a.block]? = some (.cells (cs.setIfInBounds i u) t (0, 0)) := by rw [hb]; exact h.set_ i u
    obtain ⟨ab, ao, a9⟩ := a
    simp only at hh h2
    cases a9 with
    | none =>
      simp only [World.cell?, hh] at ha
      simp only [World.cell?, h2]
      by_cases hai : ao = i
      · subst hai; exact absurd ha (hi _ _)
      · simpa [Array.getElem?_setIfInBounds, Ne.symm hai] using ha
    | some s => simp [World.cell?, hh] at ha
  · exact (World.cell?_of_block (Below.heap_setCell w _ u a.block hb)).trans ha
end
def InK (K : Nat → Prop) (v : Value) (l : List UInt8) : Prop := l ≠ [] → ∀ A n c ad, v = .slice A n c → A = some ad → K ad.block
theorem InK.mono {K K' : Nat → Prop} {v : Value} {l : List UInt8} (h : InK K v l) (hk : ∀ b, K b → K' b) : InK K' v l := fun hl A n c ad hv hA => hk _ (h hl A n c ad hv hA)
theorem InK.nil (K : Nat → Prop) (v : Value) : InK K v [] := fun h => absurd rfl h
theorem RB.inK {w : World} {v : Value} {l : List UInt8} (h : RB w v l) : InK (fun b => b < w.heap.size) v l := by
  rintro hl A n c ad rfl rfl
  obtain ⟨A', c', he, h⟩ := h
  injection he with e1 e2 e3
  subst e1 e2 e3
  have h0 : 0 < (l.map byteV).length := by rw [List.length_map]; exact List.length_pos_iff.2 hl
  obtain ⟨_, h2⟩ := h.at_ _ rfl 0 _ (List.getElem?_eq_getElem h0)
  exact World.block_lt_of_cell? w ⟨ad.block, ad.off + 0, none⟩ h2
def Rdr (K : Nat → Prop) (T : TypeId) (w : World) (g : Nat) (l : List UInt8) (bad : Bool) : Prop :=
  ∃ A c, Blk w g T #[.slice A l.length c, .bool bad] ∧ RB w (.slice A l.length c) l ∧ InK K (.slice A l.length c) l
section
variable {K : Nat → Prop} {T : TypeId} {g : Nat} {w w' : World} {l : List UInt8} {bad : Bool}
theorem Rdr.ext (h : Rdr K T w g l bad) (he : Ext w w') : Rdr K T w' g l bad := by
  obtain ⟨A, c, h1, h2, h3⟩ := h
  exact ⟨A, c, h1.ext he, h2.ext he, h3⟩
theorem Rdr.extG {g' : Nat} (h : Rdr K T w g l bad) (he : ExtG g' w w') (hg : g ≠ g') : Rdr K T w' g l bad := by
  obtain ⟨A, c, h1, h2, h3⟩ := h
  exact ⟨A, c, h1.extG he hg, h2.extG he, h3⟩
theorem Rdr.lt (h : Rdr K T w g l bad) : g < w.heap.size := by
  obtain ⟨A, c, h1, h2, _⟩ := h
  exact h1.lt
theorem Rdr.kept (h : Rdr K T w g l bad) (he : ∀ k, k < w.heap.size → (K k ∨ k = g) → w'.heap[k]? = w.heap[k]?) : Rdr K T w' g l bad := by
  obtain ⟨A, c, h1, h2, h3⟩ := h
  have hlt := h1.lt
  refine ⟨A, c, (he g hlt (.inr rfl)).trans h1, ?_, h3⟩
  obtain ⟨A', c', hv, hr⟩ := h2
  injection hv with e1 e2 e3
  subst e1 e3
  refine ⟨_, _, rfl, hr.len, hr.nc, hr.cm, hr.nil, fun ad ha j u hu => ?_⟩
  obtain ⟨q1, q2⟩ := hr.at_ ad ha j u hu
  refine ⟨q1, ?_⟩
  have hl : l ≠ [] := by intro h0; rw [h0] at hu; simp at hu
  have hb := World.block_lt_of_cell? w ⟨ad.block, ad.off + j, none⟩ q2
  exact (World.cell?_of_block (a := ⟨ad.block, ad.off + j, none⟩) (he ad.block hb (.inl (h3 hl _ _ _ ad rfl ha)))).trans q2
theorem Rdr.grown {row : Option Nat} (h : Rdr K T w g l bad) (hg : w.grownBy w' row) (hr : ∀ k, row = some k → ¬ K k ∧ k ≠ g) : Rdr K T w' g l bad :=
  h.kept fun k hk hor => hg.block k hk fun e => by
    obtain ⟨q1, q2⟩ := hr k e.symm
    rcases hor with h | h
    · exact q1 h
    · exact q2 h
theorem Rdr.mark (h : Rdr K T w g l bad) : w.cell? ⟨g, 1, none⟩ = some (.bool bad) ∧ w.frozen? ⟨g, 1, none⟩ = false ∧ w.frozen? ⟨g, 0, none⟩ = false := by
  obtain ⟨A, c, h1, h2, _⟩ := h
  exact ⟨h1.cell 1, h1.frozen 1, h1.frozen 0⟩
theorem Rdr.open_ (h : Rdr K T w g l bad) : ∃ A c, RB w (.slice A l.length c) l ∧ w.cell? ⟨g, 0, none⟩ = some (.slice A l.length c) ∧ w.cell? ⟨g, 1, none⟩ = some (.bool bad) ∧ w.frozen? ⟨g, 1, none⟩ = false ∧ w.frozen? ⟨g, 0, none⟩ = false := by
  obtain ⟨A, c, h1, h2, _⟩ := h
  exact ⟨A, c, h2, h1.cell 0, h1.cell 1, h1.frozen 1, h1.frozen 0⟩
theorem Rdr.new {A : Option Addr} {c : Nat} (h : RB w (.slice A l.length c) l) (T : TypeId) (b : Bool) : Rdr (fun k => k < w.heap.size) T (w.alloc (.cells #[.slice A l.length c, .bool b] T)) w.heap.size l b :=
  ⟨A, c, Blk.new _ _ _, h.ext ((Ext.refl _).alloc _), h.inK⟩
end
theorem ExtG.alloc {g : Nat} {a b : World} (h : ExtG g a b) (o : Obj) : ExtG g a (b.alloc o) := h.trans (ExtG.of ((Ext.refl b).alloc o))
theorem ExtG.set {g : Nat} {a b : World} (h : ExtG g a b) {p : Addr} (hp : a.heap.size ≤ p.block) (u : Value) : ExtG g a (b.setCell p u) := by
  refine ⟨⟨h.grown.os, h.grown.tape, h.grown.output, by have := h.grown.size; simpa [World.setCell] using this, fun k hk hne => ?_⟩, fun x y z hx => ?_⟩
  · rw [Below.heap_setCell b p u k (by omega)]
    exact h.grown.block k hk hne
  · have hlt := World.block_lt_of_cell? a x hx
    exact (World.cell?_of_block (Below.heap_setCell b p u x.block (by omega))).trans (h.ints x y z hx)
def XR (K : Nat → Prop) (T : TypeId) (g : Nat) (l : List UInt8) (bad : Bool) (w0 w' : World) : Prop := (ExtG g w0 w' ∧ Rdr K T w' g l bad) ∧ (∀ b, K b → b < w0.heap.size) ∧ g < w0.heap.size
section
variable {K : Nat → Prop} {T : TypeId} {g : Nat} {w0 a b : World} {l : List UInt8} {bad : Bool}
theorem XR.ext (h : XR K T g l bad w0 a) (he : Ext a b) : XR K T g l bad w0 b := ⟨⟨h.1.1.trans (ExtG.of he), h.1.2.ext he⟩, h.2⟩
theorem XR.alloc (h : XR K T g l bad w0 a) (o : Obj) : XR K T g l bad w0 (a.alloc o) := h.ext ((Ext.refl _).alloc _)
theorem XR.set (h : XR K T g l bad w0 a) {p : Addr} (hp : w0.heap.size ≤ p.block) (u : Value) : XR K T g l bad w0 (a.setCell p u) := by
  refine ⟨⟨⟨⟨h.1.1.grown.os, h.1.1.grown.tape, h.1.1.grown.output, by have := h.1.1.size; simpa [World.setCell] using this, fun k hk hne => ?_⟩, fun x y z hx => ?_⟩, ?_⟩, h.2⟩
  · rw [Below.heap_setCell a p u k (by omega)]
    exact h.1.1.grown.block k hk hne
  · have hlt := World.block_lt_of_cell? w0 x hx
    exact (World.cell?_of_block (Below.heap_setCell a p u x.block (by omega))).trans (h.1.1.ints x y z hx)
  · refine h.1.2.kept fun k hk hor => Below.heap_setCell a p u k ?_
    have h1 := h.2.1
    have h2 := h.2.2
    rcases hor with h3 | h3
    · have := h1 k h3; omega
    · omega
theorem XR.extG (h : XR K T g l bad w0 a) : ExtG g w0 a := h.1.1
end
end Go.Ox
namespace Go.Ox
open Go.RowKit
structure ExtS (gs : List Nat) (w w' : World) : Prop where
  os : w'.os = w.os
  tape : w'.tape = w.tape
  output : w'.output = w.output
  size : w.heap.size ≤ w'.heap.size
  block : ∀ k, k < w.heap.size → k ∉ gs → w'.heap[k]? = w.heap[k]?
  ints : ∀ a k z, w.cell? a = some (.int k z) → w'.cell? a = some (.int k z)
section
variable {g : Nat} {gs : List Nat} {w w' a b c : World}
theorem ExtS.refl (gs : List Nat) (w : World) : ExtS gs w w := ⟨rfl, rfl, rfl, Nat.le_refl _, fun _ _ _ => rfl, fun _ _ _ h => h⟩
theorem ExtS.trans (h : ExtS gs a b) (k : ExtS gs b c) : ExtS gs a c :=
  ⟨k.os.trans h.os, k.tape.trans h.tape, k.output.trans h.output, Nat.le_trans h.size k.size, fun x hx hn => (k.block x (Nat.lt_of_lt_of_le hx h.size) hn).trans (h.block x hx hn), fun x y z hx => k.ints x y z (h.ints x y z hx)⟩
theorem ExtS.of (h : Ext a b) : ExtS gs a b := (ExtG.of (g := 0) h |> fun q => ⟨q.grown.os, q.grown.tape, q.grown.output, q.size, fun _ hk _ => h.block hk, q.ints⟩)
theorem RdA.extS {size n c : Nat} {A : Option Addr} {l : List UInt8} (h : RdA w size A n c (l.map byteV)) (he : ExtS gs w w') : RdA w' size A n c (l.map byteV) :=
  ⟨h.len, h.nc, h.cm, h.nil, fun ad ha j u hu => ⟨(h.at_ ad ha j u hu).1, by
    obtain ⟨b, _, rfl⟩ := List.mem_map.1 (List.mem_of_getElem? hu)
    exact he.ints _ _ _ (h.at_ ad ha j _ hu).2⟩⟩
theorem RB.extS {v : Value} {l : List UInt8} (h : RB w v l) (he : ExtS gs w w') : RB w' v l := by
  obtain ⟨A, c, rfl, h⟩ := h
  exact ⟨A, c, rfl, h.extS he⟩
theorem Blk.extS {t : TypeId} {cs : Array Value} {k : Nat} (h : Blk w k t cs) (he : ExtS gs w w') (hk : k ∉ gs) : Blk w' k t cs := (he.block k h.lt hk).trans h
theorem Rdr.extS {K : Nat → Prop} {T : TypeId} {l : List UInt8} {bad : Bool} (h : Rdr K T w g l bad) (he : ExtS gs w w') (hg : g ∉ gs) : Rdr K T w' g l bad := by
  obtain ⟨A, c, h1, h2, h3⟩ := h
  exact ⟨A, c, h1.extS he hg, h2.extS he, h3⟩
end
end Go.Ox
namespace Go.Ox
open Go.RowKit
def pV (l : List (Int × Int)) : List Value := l.flatMap fun o => [.int .i64 o.1, .int .i64 o.2]
theorem pV_cons (a : Int × Int) (l : List (Int × Int)) : pV (a :: l) = .int .i64 a.1 :: .int .i64 a.2 :: pV l := rfl
theorem pV_app (l r : List (Int × Int)) : pV (l ++ r) = pV l ++ pV r := by unfold pV; rw [List.flatMap_append]
theorem pV_len (l : List (Int × Int)) : (pV l).length = l.length * 2 := by
  induction l with
  | nil => rfl
  | cons a l ih => rw [pV_cons, List.length_cons, List.length_cons, ih, List.length_cons]; omega
theorem pV_at : ∀ (l : List (Int × Int)) (i : Nat) (h : i < l.length), (pV l)[i * 2]? = some (.int .i64 l[i].1) ∧ (pV l)[i * 2 + 1]? = some (.int .i64 l[i].2)
  | a :: l, 0, h => ⟨rfl, rfl⟩
  | a :: l, i + 1, h => by
    have := pV_at l i (by simpa using h)
    rw [pV_cons, show (i + 1) * 2 = i * 2 + 1 + 1 by omega]
    simpa using this
def RP (w : World) (v : Value) (l : List (Int × Int)) : Prop := Rd w 2 v l.length (pV l)
theorem RP.ext {w w' : World} {v : Value} {l : List (Int × Int)} (h : RP w v l) (he : Ext w w') : RP w' v l := Rd.ext h he
theorem RP.rd {w : World} {v : Value} {l : List (Int × Int)} (h : RP w v l) : Rd w 2 v l.length (pV l) := h
theorem RP.nilS (w : World) : RP w (.slice none 0 0) [] := Rd.nil _ _
theorem RP.form {w : World} {v : Value} {l : List (Int × Int)} (h : RP w v l) : ∃ A c, v = .slice A l.length c := by
  obtain ⟨A, c, h, _⟩ := h
  exact ⟨A, c, h⟩
theorem RP.at_ {w : World} {A : Option Addr} {n c : Nat} {l : List (Int × Int)} (h : RP w (.slice A n c) l) {k : Nat} (hk : k < l.length) :
    ∃ b o, A = some ⟨b, o, none⟩ ∧ w.cell? ⟨b, o + k * 2, none⟩ = some (.int .i64 l[k].1) ∧ w.cell? ⟨b, o + k * 2 + 1, none⟩ = some (.int .i64 l[k].2) := by
  obtain ⟨A', c', he, h⟩ := h
  injection he with e1 e2 e3
  subst e1 e2 e3
  obtain ⟨b, o, rfl⟩ := h.addr (by omega)
  obtain ⟨h1, h2⟩ := pV_at l k hk
  refine ⟨b, o, rfl, h.get h1, ?_⟩
  have := h.get h2
  rwa [← Nat.add_assoc] at this
theorem RP.nc {w : World} {A : Option Addr} {c n : Nat} {l : List (Int × Int)} (h : RP w (.slice A n c) l) : n = l.length ∧ l.length ≤ c ∧ c ≤ maxLen := by
  obtain ⟨A', c', he, h⟩ := h
  injection he with h1 h2 h3
  subst h3 h2
  exact ⟨rfl, h.nc, h.cm⟩
def OP (E base : Nat) (w : World) (v : Value) (l : List (Int × Int)) : Prop := w.ownsRow base E 2 v l.length (pV l)
theorem OP.own {E base : Nat} {w : World} {v : Value} {l : List (Int × Int)} (h : OP E base w v l) : w.ownsRow base E 2 v l.length (pV l) := h
theorem OP.ext {E base : Nat} {w w' : World} {v : Value} {l : List (Int × Int)} (h : OP E base w v l) (he : Ext w w') : OP E base w' v l := ownsRow_ext h he
theorem OP.low {E base base' : Nat} {w : World} {v : Value} {l : List (Int × Int)} (h : OP E base w v l) (hb : base' ≤ base) : OP E base' w v l := ownsRow_low h hb
theorem OP.nilS (E base : Nat) (w : World) : OP E base w (.slice none 0 0) [] := World.ownsRow_nil _ _ _ _
theorem OP.app {E base : Nat} {w : World} {v : Value} {l r : List (Int × Int)} (h : w.ownsRow base E 2 v (l.length + r.length) (pV l ++ pV r)) : OP E base w v (l ++ r) := by
  unfold OP
  rw [List.length_append, pV_app]
  exact h
theorem OP.of0 {E base : Nat} {w : World} {v : Value} {l : List (Int × Int)} (h : w.ownsRow base E 2 v (0 + l.length) ([] ++ pV l)) : OP E base w v l := by
  rw [Nat.zero_add, List.nil_append] at h
  exact h
theorem OP.grown {E base : Nat} {w w' : World} {v : Value} {l : List (Int × Int)} {row : Option Nat} (h : OP E base w v l) (hg : w.grownBy w' row) (hv : ∀ k, v.ownBlock = some k → row ≠ some k) : OP E base w' v l :=
  ownsRow_grown h hg hv
theorem RP.lit (w : World) (cs : Array Value) (E n : Nat) (l : List (Int × Int)) (hn : l.length = n) (hm : n ≤ 1000000) (h : cs.toList = pV l) : RP (w.alloc (.cells cs E)) (.slice (some ⟨w.heap.size, 0, none⟩) n n) l := by
  subst hn
  unfold RP
  rw [← h]
  exact Rd.lit w cs E l.length (by rw [← Array.length_toList, h, pV_len]) (by unfold maxLen; omega)
structure F3 (w : World) (n : Nat) (T0 T1 T2 : TypeId) (a b c d e f : Value) : Prop where
  b0 : Blk w n T0 #[a, b]
  b1 : Blk w (n + 1) T1 #[c, d]
  b2 : Blk w (n + 1 + 1) T2 #[e, f]
theorem F3.new (w : World) (T0 T1 T2 : TypeId) (a b c d e f : Value) : F3 (((w.alloc (.cells #[a, b] T0)).alloc (.cells #[c, d] T1)).alloc (.cells #[e, f] T2)) w.heap.size T0 T1 T2 a b c d e f := by
  have hn1 : (w.alloc (.cells #[a, b] T0)).heap.size = w.heap.size + 1 := by simp
  have hn2 : ((w.alloc (.cells #[a, b] T0)).alloc (.cells #[c, d] T1)).heap.size = w.heap.size + 1 + 1 := by simp
  have h1 := Blk.new (w.alloc (.cells #[a, b] T0)) T1 #[c, d]
  have h2 := Blk.new ((w.alloc (.cells #[a, b] T0)).alloc (.cells #[c, d] T1)) T2 #[e, f]
  rw [hn1] at h1
  rw [hn2] at h2
  exact ⟨((Blk.new w _ _).ext ((Ext.refl _).alloc _)).ext ((Ext.refl _).alloc _), h1.ext ((Ext.refl _).alloc _), h2⟩
section
variable {w w' : World} {n : Nat} {T0 T1 T2 : TypeId} {a b c d e f : Value}
theorem F3.ext (h : F3 w n T0 T1 T2 a b c d e f) (he : Ext w w') : F3 w' n T0 T1 T2 a b c d e f := ⟨h.b0.ext he, h.b1.ext he, h.b2.ext he⟩
theorem F3.cells (h : F3 w n T0 T1 T2 a b c d e f) : w.cell? ⟨n, 0, none⟩ = some a ∧ w.cell? ⟨n, 1, none⟩ = some b ∧ w.cell? ⟨n + 1, 0, none⟩ = some c ∧ w.cell? ⟨n + 1, 1, none⟩ = some d ∧ w.cell? ⟨n + 1 + 1, 0, none⟩ = some e ∧ w.cell? ⟨n + 1 + 1, 1, none⟩ = some f :=
  ⟨h.b0.cell 0, h.b0.cell 1, h.b1.cell 0, h.b1.cell 1, h.b2.cell 0, h.b2.cell 1⟩
theorem F3.marks (h : F3 w n T0 T1 T2 a b c d e f) : w.frozen? ⟨n, 0, none⟩ = false ∧ w.frozen? ⟨n, 1, none⟩ = false ∧ w.frozen? ⟨n + 1, 0, none⟩ = false ∧ w.frozen? ⟨n + 1, 1, none⟩ = false ∧ w.frozen? ⟨n + 1 + 1, 0, none⟩ = false ∧ w.frozen? ⟨n + 1 + 1, 1, none⟩ = false :=
  ⟨h.b0.frozen 0, h.b0.frozen 1, h.b1.frozen 0, h.b1.frozen 1, h.b2.frozen 0, h.b2.frozen 1⟩
theorem F3.set10 (h : F3 w n T0 T1 T2 a b c d e f) (u : Value) : F3 (w.setCell ⟨n + 1, 0, none⟩ u) n T0 T1 T2 a b u d e f := ⟨h.b0.far (by simp) _, h.b1.set_ 0 _, h.b2.far (by simp) _⟩
theorem F3.set11 (h : F3 w n T0 T1 T2 a b c d e f) (u : Value) : F3 (w.setCell ⟨n + 1, 1, none⟩ u) n T0 T1 T2 a b c u e f := ⟨h.b0.far (by simp) _, h.b1.set_ 1 _, h.b2.far (by simp) _⟩
theorem F3.out (h : F3 w n T0 T1 T2 a b c d e f) (u v : Value) : ((w.setCell ⟨n + 1 + 1, 0, none⟩ u).setCell ⟨n + 1 + 1, 1, none⟩ v).cell? ⟨n + 1 + 1, 0, none⟩ = some u ∧ ((w.setCell ⟨n + 1 + 1, 0, none⟩ u).setCell ⟨n + 1 + 1, 1, none⟩ v).cell? ⟨n + 1 + 1, 1, none⟩ = some v :=
  ⟨((h.b2.set_ 0 u).set_ 1 v).cell 0, ((h.b2.set_ 0 u).set_ 1 v).cell 1⟩
end
end Go.Ox
