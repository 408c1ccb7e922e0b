/-
  Lists of elements of k plain cells each, in memory: what a slice reads as, what is the call's own.
-/
import Derived.Test.YtngdlahgihbmhaaMem2
import Derived.Test.YtngdlahgihbmhaaSort
import Derived.Test.YtngdlahgihbmhaaApp0
namespace Go.Ox
open Go.RowKit

/-- an element's cells -/
class Enc (α : Type) where
  k : Nat
  enc : α → List Value
  len : ∀ x, (enc x).length = k
  pos : 0 < k
  one : ∀ x, ∀ u ∈ enc x, u.oneCell' = true

section
variable {α : Type} [C : Enc α]
def eV (l : List α) : List Value := l.flatMap C.enc
theorem eV_nil : eV ([] : List α) = [] := rfl
theorem eV_cons (a : α) (l : List α) : eV (a :: l) = C.enc a ++ eV l := rfl
theorem eV_app (l r : List α) : eV (l ++ r) = eV l ++ eV r := by unfold eV; rw [List.flatMap_append]
theorem eV_len (l : List α) : (eV l).length = l.length * C.k := by
  induction l with
  | nil => simp [eV]
  | cons a l ih => rw [eV_cons, List.length_append, ih, C.len, List.length_cons, Nat.add_mul]; omega
theorem eV_at : ∀ (l : List α) (i : Nat) (h : i < l.length) (j : Nat), j < C.k → (eV l)[i * C.k + j]? = (C.enc l[i])[j]?
  | a :: l, 0, h, j, hj => by rw [eV_cons, Nat.zero_mul, Nat.zero_add, List.getElem?_append_left (by rw [C.len]; exact hj)]; rfl
  | a :: l, i + 1, h, j, hj => by
    have := eV_at l i (by simpa using h) j hj
    rw [eV_cons, List.getElem?_append_right (by rw [C.len, Nat.add_mul]; omega), C.len, show (i + 1) * C.k + j - C.k = i * C.k + j by rw [Nat.add_mul]; omega]
    simpa using this
theorem one_eV (l : List α) : ∀ u ∈ eV l, u.oneCell' = true := by
  intro u hu
  obtain ⟨o, _, hu⟩ := List.mem_flatMap.1 hu
  exact C.one o u hu
theorem eV_drop (l : List α) (n : Nat) : (eV l).drop (n * C.k) = eV (l.drop n) := by
  induction l generalizing n with
  | nil => simp [eV]
  | cons a l ih =>
    cases n with
    | zero => simp
    | succ n =>
      have hl := C.len a
      rw [eV_cons, List.drop_append, List.drop_eq_nil_of_le (by rw [Nat.add_mul]; omega), List.nil_append, show (n + 1) * C.k - (C.enc a).length = n * C.k by rw [Nat.add_mul]; omega, ih, List.drop_succ_cons]
theorem eV_take (l : List α) (n : Nat) : (eV l).take (n * C.k) = eV (l.take n) := by
  induction l generalizing n with
  | nil => simp [eV]
  | cons a l ih =>
    cases n with
    | zero => simp [eV]
    | succ n =>
      have hl := C.len a
      rw [eV_cons, List.take_append, List.take_of_length_le (by rw [Nat.add_mul]; omega), show (n + 1) * C.k - (C.enc a).length = n * C.k by rw [Nat.add_mul]; omega, ih, List.take_succ_cons, eV_cons]

/-- v reads as l -/
def RE (w : World) (v : Value) (l : List α) : Prop := Rd w C.k v l.length (eV l)
variable {w w' : World} {v : Value} {l r : List α} {E base base' : Nat}
theorem RE.ext (h : RE w v l) (he : Ext w w') : RE w' v l := Rd.ext h he
theorem RE.rd (h : RE w v l) : Rd w C.k v l.length (eV l) := h
theorem RE.mk (h : Rd w C.k v l.length (eV l)) : RE w v l := h
theorem RE.nilS (w : World) : RE w (.slice none 0 0) ([] : List α) := Rd.nil _ _
theorem RE.form (h : RE w v l) : ∃ A c, v = .slice A l.length c := by
  obtain ⟨A, c, h, _⟩ := h
  exact ⟨A, c, h⟩
theorem RE.nc {A : Option Addr} {c n : Nat} (h : RE w (.slice A n c) l) : n = l.length ∧ l.length ≤ c ∧ c ≤ maxLen := by
  obtain ⟨A', c', he, h⟩ := h
  injection he with h1 h2 h3
  subst h3 h2
  exact ⟨rfl, h.nc, h.cm⟩
/-- the cells of an element -/
theorem RE.at_ {A : Option Addr} {n c : Nat} (h : RE w (.slice A n c) l) {i : Nat} (hi : i < l.length) :
    ∃ b o, A = some ⟨b, o, none⟩ ∧ ∀ j u, (C.enc l[i])[j]? = some u → w.cell? ⟨b, o + i * C.k + j, none⟩ = some u := by
  obtain ⟨A', c', he, h⟩ := h
  injection he with e1 e2 e3
  subst e1 e2 e3
  obtain ⟨b, o, rfl⟩ := h.addr (by omega) C.pos
  refine ⟨b, o, rfl, fun j u hu => ?_⟩
  have hj : j < C.k := by
    rw [← C.len l[i]]
    rcases Nat.lt_or_ge j (C.enc l[i]).length with hj | hj
    · exact hj
    · rw [List.getElem?_eq_none hj] at hu; cases hu
  have := h.get (j := i * C.k + j) (u := u) (by rw [eV_at l i hi j hj]; exact hu)
  rwa [← Nat.add_assoc] at this
/-- a slice of the call's own -/
def OE (E base : Nat) (w : World) (v : Value) (l : List α) : Prop := w.ownsRow base E C.k v l.length (eV l)
theorem OE.re (h : OE E base w v l) : RE w v l := Rd.of_own h
theorem OE.own (h : OE E base w v l) : w.ownsRow base E C.k v l.length (eV l) := h
theorem OE.mk (h : w.ownsRow base E C.k v l.length (eV l)) : OE E base w v l := h
theorem OE.ext (h : OE E base w v l) (he : Ext w w') : OE E base w' v l := ownsRow_ext h he
theorem OE.low (h : OE E base w v l) (hb : base' ≤ base) : OE E base' w v l := ownsRow_low h hb
theorem OE.nilS (E base : Nat) (w : World) : OE E base w (.slice none 0 0) ([] : List α) := World.ownsRow_nil _ _ _ _
theorem OE.app (h : w.ownsRow base E C.k v (l.length + r.length) (eV l ++ eV r)) : OE E base w v (l ++ r) := by
  unfold OE
  rw [List.length_append, eV_app]
  exact h
theorem OE.of0 (h : w.ownsRow base E C.k v (0 + l.length) ([] ++ eV l)) : OE E base w v l := by
  rw [Nat.zero_add, List.nil_append] at h
  exact h
theorem OE.grown {row : Option Nat} (h : OE E base w v l) (hg : w.grownBy w' row) (hv : ∀ k, v.ownBlock = some k → row ≠ some k) : OE E base w' v l :=
  ownsRow_grown h hg hv
theorem O0.oe (h : O0 base E C.k l.length (eV l) v w) : OE E base w v l := h
/-- a literal -/
theorem RE.lit (w : World) (cs : Array Value) (E n : Nat) (l : List α) (hn : l.length = n) (hm : n ≤ 1000000) (h : cs.toList = eV l) : RE (w.alloc (.cells cs E)) (.slice (some ⟨w.heap.size, 0, none⟩) n n) l := by
  subst hn
  unfold RE
  rw [← h]
  exact Rd.lit w cs E l.length (by rw [← Array.length_toList, h, eV_len]) (by unfold maxLen; omega)
theorem RE.lo {t e : TypeId} {z : Value} {bytes c : Nat} {P : Program} {A : Option Addr} (el : Elem P t e z C.k bytes) (h : RE w (.slice A l.length c) l) {k : Nat} (hk : k ≤ l.length) :
    ∃ A', (∀ w', (Instr.slice t (.slice A l.length c) (some (.int .i64 (k : Int))) none none).run P w' = .ok (.slice A' (l.length - k) (c - k)) w') ∧ RE w (.slice A' (l.length - k) (c - k)) (l.drop k) := by
  obtain ⟨A', h1, h2⟩ := Rd.lo el h hk (k : Int) rfl
  rw [eV_drop] at h2
  refine ⟨A', h1, ?_⟩
  unfold RE
  rw [List.length_drop]
  exact h2
theorem RE.hi {t e : TypeId} {z : Value} {bytes c : Nat} {P : Program} {A : Option Addr} (el : Elem P t e z C.k bytes) (h : RE w (.slice A l.length c) l) {k : Nat} (hk : k ≤ l.length) :
    (∀ w', (Instr.slice t (.slice A l.length c) none (some (.int .i64 (k : Int))) none).run P w' = .ok (.slice A k c) w') ∧ RE w (.slice A k c) (l.take k) := by
  obtain ⟨A0, c0, he, h⟩ := h
  injection he with h1 h2 h3
  subst h1; subst h3
  obtain ⟨i, hi, hz, hs, hb⟩ := el.info
  have hnc := h.nc
  refine ⟨fun w' => ?_, ?_⟩
  · have : ((k : Int) ≤ (c : Int)) := by omega
    simp [Instr.slice, run_underlying el.under, Instr.sliceBounds, run_sliceBound w' .i64 (k : Int) c .sliceAcap (by omega) this, sizeOf, typeInfo, hi]
    cases A <;> simp [Addr.add]
  · refine ⟨A, c, ?_, ?_⟩
    · rw [List.length_take, Nat.min_eq_left hk]
    · rw [List.length_take, Nat.min_eq_left hk, ← eV_take]
      exact h.take hk
/-- append of what reads as r to what is the call's own -/
theorem wpList_appE {P : Program} {t e : TypeId} {z : Value} {bytes : Nat} {ops : Array Oper} {rest : List Oper} {o : Oper} {a : Act} {Q : Exit → Act → World → Prop} (hgd : o.guard = none) (el : Elem P t e z C.k bytes) (w : World) (s x : Operand)
    (ho : o.op = .call { callee := .builtin .append, args := #[s, x], argTypes := #[t, t] })
    (base : Nat) (v vx : Value) (l r : List α) (hs : a.eval s = v) (hown : OE e base w v l) (hx : a.eval x = vx) (hr : RE w vx r)
    (hb : (l.length + r.length) * bytes ≤ 140737488355328) (hm : l.length + r.length ≤ maxLen) (hbase : base ≤ w.heap.size)
    (h : ∀ v' w', OE e base w' v' (l ++ r) → Below base w w' → w.grownBy w' v.ownBlock → wpList P ops Q rest (a.put o.dst v') w') : wpList P ops Q (o :: rest) a w :=
  wpList_app hgd el w s x ho base v l.length (eV l) hs hown vx r.length (eV r) hx hr (one_eV r) hb hm hbase fun v' w' ha =>
    h v' w' (OE.app ha.own) (Below.grown (Below.refl _ _) ha.grown hbase fun k hk => (hown.own.lt k hk).1) ha.grown
end
theorem list_eq_atE {α : Type} [DecidableEq α] (l r : List α) (k : Nat) (hk : k < l.length) (hk2 : k < r.length) (ht : l.take k = r.take k) :
    (l[k] = r[k] → l.take (k + 1) = r.take (k + 1)) ∧ (l[k] ≠ r[k] → decide (l = r) = false) := by
  constructor
  · intro h
    rw [List.take_succ_eq_append_getElem hk, List.take_succ_eq_append_getElem hk2, ht, h]
  · intro h
    simp only [decide_eq_false_iff_not]
    intro he
    subst he
    exact h rfl
end Go.Ox
