/-
  Graphs in memory: nodes with bodies, read.
-/
import Derived.Test.YtpmikcklkddocaaTree
import Derived.Test.YtpmikcklkddocaaGrMath
namespace Go.Ox
open Go.RowKit
set_option linter.unusedVariables false
set_option linter.unusedSimpArgs false
instance encInt : Enc Int where
  k := 1
  enc x := [.int .i64 x]
  len _ := rfl
  pos := by omega
  one x u hu := by simp at hu; subst hu; rfl
theorem ri1 {w : World} {A : Option Addr} {n c : Nat} {l : List Int} (h : RE w (.slice A n c) l) {k : Nat} (hk : k < l.length) :
    ∃ b o, A = some ⟨b, o, none⟩ ∧ w.cell? ⟨b, o + k, none⟩ = some (.int .i64 l[k]) := by
  obtain ⟨b, o, e, h2⟩ := h.at_ hk
  have := h2 0 _ rfl
  refine ⟨b, o, e, ?_⟩
  rw [← this]
  congr 2
  show o + k = o + k * 1 + 0
  omega
namespace Gr
/-- a node's cells; NR: what its body's slice is -/
def NdQ (NR : World → Value → List Nd → Prop) (w : World) (r : List Value) (n : Nd) : Prop :=
  ∃ u b, r = [.int .i64 n.op, u, .int .i64 n.kind, .int .i64 n.fa, .int .i64 n.a, b] ∧ RE w u n.ins ∧ NR w b n.body
/-- nodes whose bodies are at most so deep -/
def NodesR : Nat → World → Value → List Nd → Prop
  | 0 => RS 6 fun _ _ _ => False
  | d + 1 => RS 6 (NdQ (NodesR d))
section
variable {w w' : World} {v : Value} {l : List Nd} {d : Nat}
theorem NodesR.ext : ∀ {d : Nat} {v : Value} {l : List Nd}, NodesR d w v l → Ext w w' → NodesR d w' v l
  | 0, v, l, h, he => RS.ext h (fun _ _ _ q => q) he
  | d + 1, v, l, h, he => RS.ext h (fun r x _ ⟨u, b, h1, h2, h3⟩ => ⟨u, b, h1, RE.ext h2 he, NodesR.ext h3 he⟩) he
theorem NodesR.form : ∀ {d : Nat} {v : Value} {l : List Nd}, NodesR d w v l → ∃ A c, v = .slice A l.length c
  | 0, _, _, h => RS.form h
  | _ + 1, _, _, h => RS.form h
theorem NodesR.len_le : ∀ {d : Nat} {v : Value} {l : List Nd}, NodesR d w v l → l.length ≤ maxLen
  | 0, _, _, h => RS.len_le h
  | _ + 1, _, _, h => RS.len_le h
theorem NodesR.nil (d : Nat) (w : World) : NodesR d w (.slice none 0 0) [] := by
  cases d with
  | zero => exact RS.nil _ _ _
  | succ d => exact RS.nil _ _ _
theorem NodesR.zero (h : NodesR 0 w v l) : l = [] := by
  obtain ⟨rows, h1, h2, h3⟩ := RS.ex h
  cases l with
  | nil => rfl
  | cons x l =>
    obtain ⟨r, hr⟩ : ∃ r, rows[0]? = some r := ⟨rows[0]'(by rw [h2]; simp), List.getElem?_eq_getElem (by rw [h2]; simp)⟩
    exact (h3 0 r x hr rfl).2.elim
theorem NodesR.up : ∀ {d : Nat} {v : Value} {l : List Nd}, NodesR d w v l → NodesR (d + 1) w v l
  | 0, v, l, h => RS.map h fun _ _ _ q => q.elim
  | d + 1, v, l, h => RS.map h fun r x _ ⟨u, b, h1, h2, h3⟩ => ⟨u, b, h1, h2, NodesR.up h3⟩
theorem NodesR.le {e : Nat} (h : NodesR d w v l) (he : d ≤ e) : NodesR e w v l := by
  induction he with
  | refl => exact h
  | step _ ih => exact ih.up
/-- the cells of a node -/
theorem NodesR.at_ {A : Option Addr} {n c : Nat} (h : NodesR d w (.slice A n c) l) {i : Nat} (hi : i < l.length) :
    ∃ b o u bv, A = some ⟨b, o, none⟩ ∧ w.cell? ⟨b, o + i * 6, none⟩ = some (.int .i64 l[i].op) ∧ w.cell? ⟨b, o + i * 6 + 1, none⟩ = some u ∧ w.cell? ⟨b, o + i * 6 + 2, none⟩ = some (.int .i64 l[i].kind) ∧
      w.cell? ⟨b, o + i * 6 + 3, none⟩ = some (.int .i64 l[i].fa) ∧ w.cell? ⟨b, o + i * 6 + 4, none⟩ = some (.int .i64 l[i].a) ∧ w.cell? ⟨b, o + i * 6 + 5, none⟩ = some bv ∧ RE w u l[i].ins ∧ NodesR (d - 1) w bv l[i].body := by
  cases d with
  | zero =>
    have := NodesR.zero h
    subst this
    simp at hi
  | succ d =>
    obtain ⟨b, o, r, hA, hr, ⟨u, bv, h1, h2, h3⟩, hc⟩ := RS.at_ h (by omega) hi
    subst h1
    exact ⟨b, o, u, bv, hA, hc 0 _ rfl, hc 1 _ rfl, hc 2 _ rfl, hc 3 _ rfl, hc 4 _ rfl, hc 5 _ rfl, h2, h3⟩
end
theorem NodesR.of_rs {w : World} {v : Value} {l : List Nd} {d : Nat} (h : RS 6 (NdQ (NodesR d)) w v l) : NodesR (d + 1) w v l := h
theorem NodesR.one {w : World} {v : Value} {l : List Nd} {d : Nat} (h : NodesR (d + 1) w v l) : RS 6 (NdQ (NodesR d)) w v l := h
/-- a node's value -/
structure NdV (d : Nat) (w : World) (v : Value) (n : Nd) : Prop where
  ex : ∃ u b, v = .agg #[.int .i64 n.op, u, .int .i64 n.kind, .int .i64 n.fa, .int .i64 n.a, b] ∧ RE w u n.ins ∧ NodesR d w b n.body
theorem NdV.ext {d : Nat} {w w' : World} {v : Value} {n : Nd} (h : NdV d w v n) (he : Ext w w') : NdV d w' v n := by
  obtain ⟨u, b, h1, h2, h3⟩ := h.ex
  exact ⟨u, b, h1, RE.ext h2 he, h3.ext he⟩
end Gr
end Go.Ox
