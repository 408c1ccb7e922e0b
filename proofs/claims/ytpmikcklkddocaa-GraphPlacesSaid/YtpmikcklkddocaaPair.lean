/-
  Pairs of numbers, cell by cell: lists of them in memory.
-/
import Derived.Test.YtpmikcklkddocaaMem
namespace Go.Ox
open Go.RowKit

/-- pairs of numbers, cell by cell -/
def pV (l : List (Int × Int)) : List Value := l.flatMap fun o => [.int .i64 o.1, .int .i64 o.2]
theorem pV_nil : pV [] = [] := rfl
theorem pV_cons (a : Int × Int) (l : List (Int × Int)) : pV (a :: l) = .int .i64 a.1 :: .int .i64 a.2 :: pV l := rfl
theorem pV_app (l r : List (Int × Int)) : pV (l ++ r) = pV l ++ pV r := by unfold pV; rw [List.flatMap_append]
theorem pV_len (l : List (Int × Int)) : (pV l).length = l.length * 2 := by
  induction l with
  | nil => rfl
  | cons a l ih => rw [pV_cons, List.length_cons, List.length_cons, ih, List.length_cons]; omega
theorem pV_at : ∀ (l : List (Int × Int)) (i : Nat) (h : i < l.length), (pV l)[i * 2]? = some (.int .i64 l[i].1) ∧ (pV l)[i * 2 + 1]? = some (.int .i64 l[i].2)
  | a :: l, 0, h => ⟨rfl, rfl⟩
  | a :: l, i + 1, h => by
    have := pV_at l i (by simpa using h)
    rw [pV_cons, show (i + 1) * 2 = i * 2 + 1 + 1 by omega]
    simpa using this
theorem one_pV (l : List (Int × Int)) : ∀ u ∈ pV l, u.oneCell' = true := by
  intro u hu
  unfold pV at hu
  obtain ⟨o, _, hu⟩ := List.mem_flatMap.1 hu
  simp only [List.mem_cons, List.not_mem_nil, or_false] at hu
  rcases hu with rfl | rfl <;> rfl
theorem pV_drop (l : List (Int × Int)) (k : Nat) : (pV l).drop (k * 2) = pV (l.drop k) := by
  induction l generalizing k with
  | nil => simp [pV]
  | cons a l ih =>
    cases k with
    | zero => simp
    | succ k => rw [pV_cons, show (k + 1) * 2 = k * 2 + 1 + 1 by omega, List.drop_succ_cons, List.drop_succ_cons, ih, List.drop_succ_cons]
theorem pV_take (l : List (Int × Int)) (k : Nat) : (pV l).take (k * 2) = pV (l.take k) := by
  induction l generalizing k with
  | nil => simp [pV]
  | cons a l ih =>
    cases k with
    | zero => simp [pV]
    | succ k => rw [pV_cons, show (k + 1) * 2 = k * 2 + 1 + 1 by omega, List.take_succ_cons, List.take_succ_cons, ih, List.take_succ_cons, pV_cons]

/-- v reads as the pairs l -/
def RP (w : World) (v : Value) (l : List (Int × Int)) : Prop := Rd w 2 v l.length (pV l)
theorem RP.ext {w w' : World} {v : Value} {l : List (Int × Int)} (h : RP w v l) (he : Ext w w') : RP w' v l := Rd.ext h he
theorem RP.rd {w : World} {v : Value} {l : List (Int × Int)} (h : RP w v l) : Rd w 2 v l.length (pV l) := h
theorem RP.nilS (w : World) : RP w (.slice none 0 0) [] := Rd.nil _ _
theorem RP.form {w : World} {v : Value} {l : List (Int × Int)} (h : RP w v l) : ∃ A c, v = .slice A l.length c := by
  obtain ⟨A, c, h, _⟩ := h
  exact ⟨A, c, h⟩
/-- the cells of a pair -/
theorem RP.at_ {w : World} {A : Option Addr} {n c : Nat} {l : List (Int × Int)} (h : RP w (.slice A n c) l) {k : Nat} (hk : k < l.length) :
    ∃ b o, A = some ⟨b, o, none⟩ ∧ w.cell? ⟨b, o + k * 2, none⟩ = some (.int .i64 l[k].1) ∧ w.cell? ⟨b, o + k * 2 + 1, none⟩ = some (.int .i64 l[k].2) := by
  obtain ⟨A', c', he, h⟩ := h
  injection he with e1 e2 e3
  subst e1 e2 e3
  obtain ⟨b, o, rfl⟩ := h.addr (by omega)
  obtain ⟨h1, h2⟩ := pV_at l k hk
  refine ⟨b, o, rfl, h.get h1, ?_⟩
  have := h.get h2
  rwa [← Nat.add_assoc] at this
theorem RP.nc {w : World} {A : Option Addr} {c n : Nat} {l : List (Int × Int)} (h : RP w (.slice A n c) l) : n = l.length ∧ l.length ≤ c ∧ c ≤ maxLen := by
  obtain ⟨A', c', he, h⟩ := h
  injection he with h1 h2 h3
  subst h3 h2
  exact ⟨rfl, h.nc, h.cm⟩
/-- a slice of the call's own that holds the pairs l -/
def OP (E base : Nat) (w : World) (v : Value) (l : List (Int × Int)) : Prop := w.ownsRow base E 2 v l.length (pV l)
theorem OP.rp {E base : Nat} {w : World} {v : Value} {l : List (Int × Int)} (h : OP E base w v l) : RP w v l := Rd.of_own h
theorem OP.own {E base : Nat} {w : World} {v : Value} {l : List (Int × Int)} (h : OP E base w v l) : w.ownsRow base E 2 v l.length (pV l) := h
theorem OP.ext {E base : Nat} {w w' : World} {v : Value} {l : List (Int × Int)} (h : OP E base w v l) (he : Ext w w') : OP E base w' v l := ownsRow_ext h he
theorem OP.low {E base base' : Nat} {w : World} {v : Value} {l : List (Int × Int)} (h : OP E base w v l) (hb : base' ≤ base) : OP E base' w v l := ownsRow_low h hb
theorem OP.nilS (E base : Nat) (w : World) : OP E base w (.slice none 0 0) [] := World.ownsRow_nil _ _ _ _
theorem OP.app {E base : Nat} {w : World} {v : Value} {l r : List (Int × Int)} (h : w.ownsRow base E 2 v (l.length + r.length) (pV l ++ pV r)) : OP E base w v (l ++ r) := by
  unfold OP
  rw [List.length_append, pV_app]
  exact h
theorem OP.of0 {E base : Nat} {w : World} {v : Value} {l : List (Int × Int)} (h : w.ownsRow base E 2 v (0 + l.length) ([] ++ pV l)) : OP E base w v l := by
  rw [Nat.zero_add, List.nil_append] at h
  exact h
theorem OP.grown {E base : Nat} {w w' : World} {v : Value} {l : List (Int × Int)} {row : Option Nat} (h : OP E base w v l) (hg : w.grownBy w' row) (hv : ∀ k, v.ownBlock = some k → row ≠ some k) : OP E base w' v l :=
  ownsRow_grown h hg hv
/-- a literal of pairs -/
theorem RP.lit (w : World) (cs : Array Value) (E n : Nat) (l : List (Int × Int)) (hn : l.length = n) (hm : n ≤ 1000000) (h : cs.toList = pV l) : RP (w.alloc (.cells cs E)) (.slice (some ⟨w.heap.size, 0, none⟩) n n) l := by
  subst hn
  unfold RP
  rw [← h]
  exact Rd.lit w cs E l.length (by rw [← Array.length_toList, h, pV_len]) (by unfold maxLen; omega)
/-- two lists of one length, element by element -/
theorem list_eq_at {α : Type} [DecidableEq α] (l r : List α) (k : Nat) (hk : k < l.length) (hk2 : k < r.length) (ht : l.take k = r.take k) :
    (l[k] = r[k] → l.take (k + 1) = r.take (k + 1)) ∧ (l[k] ≠ r[k] → decide (l = r) = false) := by
  constructor
  · intro h
    rw [List.take_succ_eq_append_getElem hk, List.take_succ_eq_append_getElem hk2, ht, h]
  · intro h
    simp only [decide_eq_false_iff_not]
    intro he
    subst he
    exact h rfl

/-- three boxes of two cells, one behind the other -/
structure F3 (w : World) (n : Nat) (T0 T1 T2 : TypeId) (a b c d e f : Value) : Prop where
  b0 : Blk w n T0 #[a, b]
  b1 : Blk w (n + 1) T1 #[c, d]
  b2 : Blk w (n + 1 + 1) T2 #[e, f]
theorem F3.new (w : World) (T0 T1 T2 : TypeId) (a b c d e f : Value) : F3 (((w.alloc (.cells #[a, b] T0)).alloc (.cells #[c, d] T1)).alloc (.cells #[e, f] T2)) w.heap.size T0 T1 T2 a b c d e f := by
  have hn1 : (w.alloc (.cells #[a, b] T0)).heap.size = w.heap.size + 1 := by simp
  have hn2 : ((w.alloc (.cells #[a, b] T0)).alloc (.cells #[c, d] T1)).heap.size = w.heap.size + 1 + 1 := by simp
  have h1 := Blk.new (w.alloc (.cells #[a, b] T0)) T1 #[c, d]
  have h2 := Blk.new ((w.alloc (.cells #[a, b] T0)).alloc (.cells #[c, d] T1)) T2 #[e, f]
  rw [hn1] at h1
  rw [hn2] at h2
  exact ⟨((Blk.new w _ _).ext ((Ext.refl _).alloc _)).ext ((Ext.refl _).alloc _), h1.ext ((Ext.refl _).alloc _), h2⟩
section
variable {w w' : World} {n : Nat} {T0 T1 T2 : TypeId} {a b c d e f : Value}
theorem F3.ext (h : F3 w n T0 T1 T2 a b c d e f) (he : Ext w w') : F3 w' n T0 T1 T2 a b c d e f := ⟨h.b0.ext he, h.b1.ext he, h.b2.ext he⟩
theorem F3.cells (h : F3 w n T0 T1 T2 a b c d e f) : w.cell? ⟨n, 0, none⟩ = some a ∧ w.cell? ⟨n, 1, none⟩ = some b ∧ w.cell? ⟨n + 1, 0, none⟩ = some c ∧ w.cell? ⟨n + 1, 1, none⟩ = some d ∧ w.cell? ⟨n + 1 + 1, 0, none⟩ = some e ∧ w.cell? ⟨n + 1 + 1, 1, none⟩ = some f :=
  ⟨h.b0.cell 0, h.b0.cell 1, h.b1.cell 0, h.b1.cell 1, h.b2.cell 0, h.b2.cell 1⟩
theorem F3.marks (h : F3 w n T0 T1 T2 a b c d e f) : w.frozen? ⟨n, 0, none⟩ = false ∧ w.frozen? ⟨n, 1, none⟩ = false ∧ w.frozen? ⟨n + 1, 0, none⟩ = false ∧ w.frozen? ⟨n + 1, 1, none⟩ = false ∧ w.frozen? ⟨n + 1 + 1, 0, none⟩ = false ∧ w.frozen? ⟨n + 1 + 1, 1, none⟩ = false :=
  ⟨h.b0.frozen 0, h.b0.frozen 1, h.b1.frozen 0, h.b1.frozen 1, h.b2.frozen 0, h.b2.frozen 1⟩
theorem F3.set01 (h : F3 w n T0 T1 T2 a b c d e f) (u : Value) : F3 (w.setCell ⟨n, 1, none⟩ u) n T0 T1 T2 a u c d e f := ⟨h.b0.set_ 1 _, h.b1.far (by simp) _, h.b2.far (by simp; omega) _⟩
theorem F3.set10 (h : F3 w n T0 T1 T2 a b c d e f) (u : Value) : F3 (w.setCell ⟨n + 1, 0, none⟩ u) n T0 T1 T2 a b u d e f := ⟨h.b0.far (by simp) _, h.b1.set_ 0 _, h.b2.far (by simp) _⟩
theorem F3.set11 (h : F3 w n T0 T1 T2 a b c d e f) (u : Value) : F3 (w.setCell ⟨n + 1, 1, none⟩ u) n T0 T1 T2 a b c u e f := ⟨h.b0.far (by simp) _, h.b1.set_ 1 _, h.b2.far (by simp) _⟩
theorem F3.out (h : F3 w n T0 T1 T2 a b c d e f) (u v : Value) : ((w.setCell ⟨n + 1 + 1, 0, none⟩ u).setCell ⟨n + 1 + 1, 1, none⟩ v).cell? ⟨n + 1 + 1, 0, none⟩ = some u ∧ ((w.setCell ⟨n + 1 + 1, 0, none⟩ u).setCell ⟨n + 1 + 1, 1, none⟩ v).cell? ⟨n + 1 + 1, 1, none⟩ = some v :=
  ⟨((h.b2.set_ 0 u).set_ 1 v).cell 0, ((h.b2.set_ 0 u).set_ 1 v).cell 1⟩
end
end Go.Ox
