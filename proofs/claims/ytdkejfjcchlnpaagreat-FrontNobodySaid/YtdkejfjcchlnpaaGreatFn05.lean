/-
  Rdr, Pair, packed: what the claim needs of them.
-/
import Derived.Test.YtdkejfjcchlnpaaGreatFn04
namespace Go.Ox
open Go.RowKit
structure ExtG (g : Nat) (w w' : World) : Prop where
 grown : w.grownBy w' (some g)
 ints : ∀ a k z, w.cell? a = some (.int k z) → w'.cell? a = some (.int k z)
section
variable {g : Nat} {w w' a b c : World}
theorem ExtG.refl (g : Nat) (w : World) : ExtG g w w := ⟨World.grownBy.refl _ _, fun _ _ _ h => h⟩
theorem ExtG.trans (h : ExtG g a b) (k : ExtG g b c) : ExtG g a c := ⟨h.grown.trans k.grown, fun x y z hx => k.ints x y z (h.ints x y z hx)⟩
theorem ExtG.of (h : Ext a b) : ExtG g a b := ⟨⟨h.os, h.tape, h.output, h.size, fun _ hk _ => h.block hk⟩, fun _ _ _ hx => h.cell hx⟩
theorem RdA.a5Y {size n c : Nat} {A : Option Addr} {l : List UInt8} (h : RdA w size A n c (l.map a0X)) (he : ExtG g w w') : RdA w' size A n c (l.map a0X) :=
 ⟨h.len, h.nc, h.cm, h.nil, fun ad ha j u hu => ⟨(h.at_ ad ha j u hu).1, by
  obtain ⟨b, _, rfl⟩ := List.mem_map.1 (List.mem_of_getElem? hu)
  exact he.ints _ _ _ (h.at_ ad ha j _ hu).2⟩⟩
theorem RB.a5Y {v : Value} {l : List UInt8} (h : RB w v l) (he : ExtG g w w') : RB w' v l := by
 obtain ⟨A, c, rfl, h⟩ := h;exact ⟨A, c, rfl, h.a5Y he⟩
theorem Blk.a5Y {t : TypeId} {cs : Array Value} {k : Nat} (h : Blk w k t cs) (he : ExtG g w w') (hk : k ≠ g) : Blk w' k t cs :=
 (he.grown.block k h.lt (fun e => hk (by injection e))).trans h
theorem OB.a5Y {E base : Nat} {v : Value} {l : List UInt8} (h : OB E base w v l) (he : ExtG g w w') (hv : v.ownBlock ≠ some g) : OB E base w' v l :=
 World.ownsRow.kept h he.grown (by
  cases hq : v.ownBlock with
  | none => simp
  | some k => simp; intro e; exact hv (by rw [hq, e]))
theorem ExtG.store {t : TypeId} {cs : Array Value} (h : Blk w g t cs) {i : Nat} (hi : ∀ k z, cs[i]? ≠ some (.int k z)) (u : Value) : ExtG g w (w.setCell ⟨g, i, none⟩ u) := by
 refine ⟨⟨rfl, rfl, rfl, by simp [World.setCell], fun k _ hne => Below.heap_setCell w _ u k (fun e => hne (by rw [e]))⟩, fun a k z ha => ?_⟩
 by_cases hb : a.block = g
 · have hh : w.heap[a.block]? = some (.cells cs t (0, 0)) := by rw [hb]; exact h
   have h2 : (w.setCell ⟨g, i, none⟩ u).heap[a.block]? = some (.cells (cs.setIfInBounds i u) t (0, 0)) := by rw [hb]; exact h.a0U i u
   obtain ⟨ab, ao, as⟩ := a;simp only at hh h2
   cases as with
   | none =>
    simp only [World.cell?, hh] at ha;simp only [World.cell?, h2]
    by_cases hai : ao = i
    · subst hai; exact absurd ha (hi _ _)
    simpa [Array.getElem?_setIfInBounds, Ne.symm hai] using ha
   | some s => simp [World.cell?, hh] at ha
 exact (World.cell?_of_block (Below.heap_setCell w _ u a.block hb)).trans ha
end
def InK (K : Nat → Prop) (v : Value) (l : List UInt8) : Prop := l ≠ [] → ∀ A n c ad, v = .slice A n c → A = some ad → K ad.block
theorem InK.mono {K K' : Nat → Prop} {v : Value} {l : List UInt8} (h : InK K v l) (hk : ∀ b, K b → K' b) : InK K' v l := fun hl A n c ad hv hA => hk _ (h hl A n c ad hv hA)
theorem RB.inK {w : World} {v : Value} {l : List UInt8} (h : RB w v l) : InK (fun b => b < w.heap.size) v l := by
 rintro hl A n c ad rfl rfl;obtain ⟨A', c', he, h⟩ := h;injection he with e1 e2 e3
 subst e1 e2 e3;have h0 : 0 < (l.map a0X).length := by rw [List.length_map]; exact List.length_pos_iff.2 hl
 obtain ⟨_, h2⟩ := h.at_ _ rfl 0 _ (List.getElem?_eq_getElem h0);exact World.block_lt_of_cell? w ⟨ad.block, ad.off + 0, none⟩ h2
theorem RB.loK {P : Program} {t e : TypeId} {z : Value} {bytes c : Nat} {A : Option Addr} {l : List UInt8} {K : Nat → Prop} (el : Elem P t e z 1 bytes) {w : World} (h : RB w (.slice A l.length c) l) (hK : InK K (.slice A l.length c) l) {k : Nat} (hk : k ≤ l.length) (x : Int) (hx : x = k) :
 ∃ A', (∀ w', (Instr.slice t (.slice A l.length c) (some (.int .i64 x)) none none).run P w' = .ok (.slice A' (l.length - k) (c - k)) w') ∧ RB w (.slice A' (l.length - k) (c - k)) (l.drop k) ∧ InK K (.slice A' (l.length - k) (c - k)) (l.drop k) := by
 subst hx;obtain ⟨A0, c0, he, h⟩ := h;injection he with h1 h2 h3
 subst h1; subst h3;obtain ⟨i, hi, hz, hs, hb⟩ := el.info;have hd := h.drop hk;refine ⟨if c = k then A else A.map (·.add (k * 1)), fun w' => ?_, ?_, ?_⟩
 · have g2 : ((k : Int) ≤ (l.length : Int)) := by omega
   simp [Instr.slice, run_underlying el.under, Instr.sliceBounds, run_sliceBound w' .i64 (k : Int) l.length .sliceB (by omega) g2, sizeOf, typeInfo, hi, hs]
 · unfold RB
   rw [List.length_drop, List.map_drop];exact ⟨_, _, rfl, by simpa using hd⟩
 intro hl A1 n1 c1 ad hv hA;injection hv with e1
 subst hA;have hl0 : l ≠ [] := by intro h0; rw [h0] at hl; simp at hl
 split at e1
 · exact hK hl0 A _ _ ad rfl e1
 cases A with
 | none => cases e1
 | some a =>
  simp only [Option.map_some, Option.some.injEq] at e1;have := hK hl0 (some a) _ _ a rfl rfl;rw [← e1];unfold Addr.add
  split <;> exact this
def Rdr (K : Nat → Prop) (T : TypeId) (w : World) (g : Nat) (l : List UInt8) (bad : Bool) : Prop :=
 ∃ A c, Blk w g T #[.slice A l.length c, .bool bad] ∧ RB w (.slice A l.length c) l ∧ InK K (.slice A l.length c) l
section
variable {K : Nat → Prop} {T : TypeId} {g : Nat} {w w' : World} {l : List UInt8} {bad : Bool}
theorem Rdr.ext (h : Rdr K T w g l bad) (he : Ext w w') : Rdr K T w' g l bad := by
 obtain ⟨A, c, h1, h2, h3⟩ := h;exact ⟨A, c, h1.ext he, h2.ext he, h3⟩
theorem Rdr.lt (h : Rdr K T w g l bad) : g < w.heap.size := by
 obtain ⟨A, c, h1, h2, _⟩ := h;exact h1.lt
theorem Rdr.kept (h : Rdr K T w g l bad) (he : ∀ k, k < w.heap.size → (K k ∨ k = g) → w'.heap[k]? = w.heap[k]?) : Rdr K T w' g l bad := by
 obtain ⟨A, c, h1, h2, h3⟩ := h;have hlt := h1.lt;refine ⟨A, c, (he g hlt (.inr rfl)).trans h1, ?_, h3⟩;obtain ⟨A', c', hv, hr⟩ := h2;injection hv with e1 e2 e3
 subst e1 e3;refine ⟨_, _, rfl, hr.len, hr.nc, hr.cm, hr.nil, fun ad ha j u hu => ?_⟩
 obtain ⟨q1, q2⟩ := hr.at_ ad ha j u hu;refine ⟨q1, ?_⟩;have hl : l ≠ [] := by intro h0; rw [h0] at hu; simp at hu
 have hb := World.block_lt_of_cell? w ⟨ad.block, ad.off + j, none⟩ q2;exact (World.cell?_of_block (a := ⟨ad.block, ad.off + j, none⟩) (he ad.block hb (.inl (h3 hl _ _ _ ad rfl ha)))).trans q2
theorem Rdr.mark (h : Rdr K T w g l bad) : w.cell? ⟨g, 1, none⟩ = some (.bool bad) ∧ w.frozen? ⟨g, 1, none⟩ = false ∧ w.frozen? ⟨g, 0, none⟩ = false := by
 obtain ⟨A, c, h1, h2, _⟩ := h;exact ⟨h1.cell 1, h1.frozen 1, h1.frozen 0⟩
theorem Rdr.b3e (h : Rdr K T w g l bad) (b : Bool) : Rdr K T (w.setCell ⟨g, 1, none⟩ (.bool b)) g l b ∧ ExtG g w (w.setCell ⟨g, 1, none⟩ (.bool b)) := by
 obtain ⟨A, c, h1, h2, h3⟩ := h;have he := ExtG.store h1 (i := 1) (by intro k z; simp) (.bool b)
 exact ⟨⟨A, c, h1.a0U 1 (.bool b), h2.a5Y he, h3⟩, he⟩
theorem Rdr.open_ (h : Rdr K T w g l bad) : ∃ A c, RB w (.slice A l.length c) l ∧ w.cell? ⟨g, 0, none⟩ = some (.slice A l.length c) ∧ w.cell? ⟨g, 1, none⟩ = some (.bool bad) ∧ w.frozen? ⟨g, 1, none⟩ = false ∧ w.frozen? ⟨g, 0, none⟩ = false := by
 obtain ⟨A, c, h1, h2, _⟩ := h;exact ⟨A, c, h2, h1.cell 0, h1.cell 1, h1.frozen 1, h1.frozen 0⟩
theorem Rdr.openK (h : Rdr K T w g l bad) : ∃ A c, InK K (.slice A l.length c) l ∧ RB w (.slice A l.length c) l ∧ w.cell? ⟨g, 0, none⟩ = some (.slice A l.length c) ∧ w.cell? ⟨g, 1, none⟩ = some (.bool bad) ∧ w.frozen? ⟨g, 1, none⟩ = false ∧ w.frozen? ⟨g, 0, none⟩ = false := by
 obtain ⟨A, c, h1, h2, h3⟩ := h;exact ⟨A, c, h3, h2, h1.cell 0, h1.cell 1, h1.frozen 1, h1.frozen 0⟩
theorem Rdr.b3f {l' : List UInt8} (h : Rdr K T w g l bad) {A' : Option Addr} {n c' : Nat} (h' : RB w (.slice A' n c') l') (hK : InK K (.slice A' n c') l') :
 Rdr K T (w.setCell ⟨g, 0, none⟩ (.slice A' n c')) g l' bad ∧ ExtG g w (w.setCell ⟨g, 0, none⟩ (.slice A' n c')) := by
 obtain ⟨A, c, h1, h2, _⟩ := h;have he := ExtG.store h1 (i := 0) (by intro k z; simp) (.slice A' n c')
 obtain ⟨A2, c2, e, hr⟩ := h';injection e with e1 e2 e3
 subst e1 e2 e3;exact ⟨⟨_, _, h1.a0U 0 _, RB.a5Y ⟨_, _, rfl, hr⟩ he, hK⟩, he⟩
theorem Rdr.new {A : Option Addr} {c : Nat} (h : RB w (.slice A l.length c) l) (T : TypeId) (b : Bool) : Rdr (fun k => k < w.heap.size) T (w.alloc (.cells #[.slice A l.length c, .bool b] T)) w.heap.size l b :=
 ⟨A, c, Blk.new _ _ _, h.ext ((Ext.refl _).alloc _), h.inK⟩
theorem Rdr.weak {K' : Nat → Prop} (h : Rdr K T w g l bad) (hk : ∀ b, K b → K' b) : Rdr K' T w g l bad := by
 obtain ⟨A, c, h1, h2, h3⟩ := h;exact ⟨A, c, h1, h2, h3.mono hk⟩
end
section
variable {K : Nat → Prop} {T : TypeId} {g : Nat} {w0 a b : World} {l : List UInt8} {bad : Bool}
end
end Go.Ox
namespace Go.Ox
open Go.RowKit
section
variable {g : Nat} {gs : List Nat} {w w' a b c : World}
end
end Go.Ox
namespace Go.Ox
open Go.RowKit
def pV (l : List (Int × Int)) : List Value := l.flatMap fun o => [.int .i64 o.1, .int .i64 o.2]
theorem a9h (a : Int × Int) (l : List (Int × Int)) : pV (a :: l) = .int .i64 a.1 :: .int .i64 a.2 :: pV l := rfl
theorem pV_app (l r : List (Int × Int)) : pV (l ++ r) = pV l ++ pV r := by unfold pV; rw [List.flatMap_append]
theorem pV_len (l : List (Int × Int)) : (pV l).length = l.length * 2 := by
 induction l with
 | nil => rfl
 | cons a l ih => rw [a9h, List.length_cons, List.length_cons, ih, List.length_cons]; omega
theorem pV_at : ∀ (l : List (Int × Int)) (i : Nat) (h : i < l.length), (pV l)[i * 2]? = some (.int .i64 l[i].1) ∧ (pV l)[i * 2 + 1]? = some (.int .i64 l[i].2)
 | a :: l, 0, h => ⟨rfl, rfl⟩
 | a :: l, i + 1, h => by
  have := pV_at l i (by simpa using h)
  rw [a9h, show (i + 1) * 2 = i * 2 + 1 + 1 by omega]
  simpa using this
theorem b2G (l : List (Int × Int)) : ∀ u ∈ pV l, u.oneCell' = true := by
 intro u hu;unfold pV at hu;obtain ⟨o, _, hu⟩ := List.mem_flatMap.1 hu;simp only [List.mem_cons, List.not_mem_nil, or_false] at hu
 rcases hu with rfl | rfl <;> rfl
def RP (w : World) (v : Value) (l : List (Int × Int)) : Prop := Rd w 2 v l.length (pV l)
theorem RP.ext {w w' : World} {v : Value} {l : List (Int × Int)} (h : RP w v l) (he : Ext w w') : RP w' v l := Rd.ext h he
theorem RP.rd {w : World} {v : Value} {l : List (Int × Int)} (h : RP w v l) : Rd w 2 v l.length (pV l) := h
theorem RP.form {w : World} {v : Value} {l : List (Int × Int)} (h : RP w v l) : ∃ A c, v = .slice A l.length c := by
 obtain ⟨A, c, h, _⟩ := h;exact ⟨A, c, h⟩
theorem RP.at_ {w : World} {A : Option Addr} {n c : Nat} {l : List (Int × Int)} (h : RP w (.slice A n c) l) {k : Nat} (hk : k < l.length) :
 ∃ b o, A = some ⟨b, o, none⟩ ∧ w.cell? ⟨b, o + k * 2, none⟩ = some (.int .i64 l[k].1) ∧ w.cell? ⟨b, o + k * 2 + 1, none⟩ = some (.int .i64 l[k].2) := by
 obtain ⟨A', c', he, h⟩ := h;injection he with e1 e2 e3
 subst e1 e2 e3;obtain ⟨b, o, rfl⟩ := h.addr (by omega)
 obtain ⟨h1, h2⟩ := pV_at l k hk;refine ⟨b, o, rfl, h.get h1, ?_⟩;have := h.get h2;rwa [← Nat.add_assoc] at this
theorem RP.nc {w : World} {A : Option Addr} {c n : Nat} {l : List (Int × Int)} (h : RP w (.slice A n c) l) : n = l.length ∧ l.length ≤ c ∧ c ≤ maxLen := by
 obtain ⟨A', c', he, h⟩ := h;injection he with h1 h2 h3
 subst h3 h2;exact ⟨rfl, h.nc, h.cm⟩
def OP (E base : Nat) (w : World) (v : Value) (l : List (Int × Int)) : Prop := w.ownsRow base E 2 v l.length (pV l)
theorem OP.rp {E base : Nat} {w : World} {v : Value} {l : List (Int × Int)} (h : OP E base w v l) : RP w v l := Rd.a3t h
theorem OP.own {E base : Nat} {w : World} {v : Value} {l : List (Int × Int)} (h : OP E base w v l) : w.ownsRow base E 2 v l.length (pV l) := h
theorem OP.ext {E base : Nat} {w w' : World} {v : Value} {l : List (Int × Int)} (h : OP E base w v l) (he : Ext w w') : OP E base w' v l := a1N h he
theorem OP.low {E base base' : Nat} {w : World} {v : Value} {l : List (Int × Int)} (h : OP E base w v l) (hb : base' ≤ base) : OP E base' w v l := a2u h hb
theorem OP.a2F (E base : Nat) (w : World) : OP E base w (.slice none 0 0) [] := World.ownsRow_nil _ _ _ _
theorem OP.app {E base : Nat} {w : World} {v : Value} {l r : List (Int × Int)} (h : w.ownsRow base E 2 v (l.length + r.length) (pV l ++ pV r)) : OP E base w v (l ++ r) := by
 unfold OP;rw [List.length_append, pV_app];exact h
theorem OP.of0 {E base : Nat} {w : World} {v : Value} {l : List (Int × Int)} (h : w.ownsRow base E 2 v (0 + l.length) ([] ++ pV l)) : OP E base w v l := by
 rw [Nat.zero_add, List.nil_append] at h;exact h
theorem RP.lit (w : World) (cs : Array Value) (E n : Nat) (l : List (Int × Int)) (hn : l.length = n) (hm : n ≤ 1000000) (h : cs.toList = pV l) : RP (w.alloc (.cells cs E)) (.slice (some ⟨w.heap.size, 0, none⟩) n n) l := by
 subst hn;unfold RP;rw [← h];exact Rd.lit w cs E l.length (by rw [← Array.length_toList, h, pV_len]) (by unfold maxLen; omega)
theorem a8j {α : Type} [DecidableEq α] (l r : List α) (k : Nat) (hk : k < l.length) (hk2 : k < r.length) (ht : l.take k = r.take k) :
 (l[k] = r[k] → l.take (k + 1) = r.take (k + 1)) ∧ (l[k] ≠ r[k] → decide (l = r) = false) := by
 constructor
 · intro h
   rw [List.take_succ_eq_append_getElem hk, List.take_succ_eq_append_getElem hk2, ht, h]
 intro h;simp only [decide_eq_false_iff_not];intro he;subst he;exact h rfl
structure F3 (w : World) (n : Nat) (T0 T1 T2 : TypeId) (a b c d e f : Value) : Prop where
 b0 : Blk w n T0 #[a, b]
 b1 : Blk w (n + 1) T1 #[c, d]
 b2 : Blk w (n + 1 + 1) T2 #[e, f]
theorem F3.new (w : World) (T0 T1 T2 : TypeId) (a b c d e f : Value) : F3 (((w.alloc (.cells #[a, b] T0)).alloc (.cells #[c, d] T1)).alloc (.cells #[e, f] T2)) w.heap.size T0 T1 T2 a b c d e f := by
 have hn1 : (w.alloc (.cells #[a, b] T0)).heap.size = w.heap.size + 1 := by simp
 have hn2 : ((w.alloc (.cells #[a, b] T0)).alloc (.cells #[c, d] T1)).heap.size = w.heap.size + 1 + 1 := by simp
 have h1 := Blk.new (w.alloc (.cells #[a, b] T0)) T1 #[c, d];have h2 := Blk.new ((w.alloc (.cells #[a, b] T0)).alloc (.cells #[c, d] T1)) T2 #[e, f];rw [hn1] at h1;rw [hn2] at h2;exact ⟨((Blk.new w _ _).ext ((Ext.refl _).alloc _)).ext ((Ext.refl _).alloc _), h1.ext ((Ext.refl _).alloc _), h2⟩
section
variable {w w' : World} {n : Nat} {T0 T1 T2 : TypeId} {a b c d e f : Value}
theorem F3.ext (h : F3 w n T0 T1 T2 a b c d e f) (he : Ext w w') : F3 w' n T0 T1 T2 a b c d e f := ⟨h.b0.ext he, h.b1.ext he, h.b2.ext he⟩
theorem F3.cells (h : F3 w n T0 T1 T2 a b c d e f) : w.cell? ⟨n, 0, none⟩ = some a ∧ w.cell? ⟨n, 1, none⟩ = some b ∧ w.cell? ⟨n + 1, 0, none⟩ = some c ∧ w.cell? ⟨n + 1, 1, none⟩ = some d ∧ w.cell? ⟨n + 1 + 1, 0, none⟩ = some e ∧ w.cell? ⟨n + 1 + 1, 1, none⟩ = some f :=
 ⟨h.b0.cell 0, h.b0.cell 1, h.b1.cell 0, h.b1.cell 1, h.b2.cell 0, h.b2.cell 1⟩
theorem F3.marks (h : F3 w n T0 T1 T2 a b c d e f) : w.frozen? ⟨n, 0, none⟩ = false ∧ w.frozen? ⟨n, 1, none⟩ = false ∧ w.frozen? ⟨n + 1, 0, none⟩ = false ∧ w.frozen? ⟨n + 1, 1, none⟩ = false ∧ w.frozen? ⟨n + 1 + 1, 0, none⟩ = false ∧ w.frozen? ⟨n + 1 + 1, 1, none⟩ = false :=
 ⟨h.b0.frozen 0, h.b0.frozen 1, h.b1.frozen 0, h.b1.frozen 1, h.b2.frozen 0, h.b2.frozen 1⟩
theorem F3.a8k (h : F3 w n T0 T1 T2 a b c d e f) (u : Value) : F3 (w.setCell ⟨n + 1, 0, none⟩ u) n T0 T1 T2 a b u d e f := ⟨h.b0.far (by simp) _, h.b1.a0U 0 _, h.b2.far (by simp) _⟩
theorem F3.a8l (h : F3 w n T0 T1 T2 a b c d e f) (u : Value) : F3 (w.setCell ⟨n + 1, 1, none⟩ u) n T0 T1 T2 a b c u e f := ⟨h.b0.far (by simp) _, h.b1.a0U 1 _, h.b2.far (by simp) _⟩
theorem F3.o (h : F3 w n T0 T1 T2 a b c d e f) (u v : Value) : ((w.setCell ⟨n + 1 + 1, 0, none⟩ u).setCell ⟨n + 1 + 1, 1, none⟩ v).cell? ⟨n + 1 + 1, 0, none⟩ = some u ∧ ((w.setCell ⟨n + 1 + 1, 0, none⟩ u).setCell ⟨n + 1 + 1, 1, none⟩ v).cell? ⟨n + 1 + 1, 1, none⟩ = some v :=
 ⟨((h.b2.a0U 0 u).a0U 1 v).cell 0, ((h.b2.a0U 0 u).a0U 1 v).cell 1⟩
end
end Go.Ox
