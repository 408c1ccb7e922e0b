/-
  Pair, RowE, packed: what the claim needs of them.
-/
import Derived.Test.YtpmgmiiidfconaaGreatDoorPz02
import Derived.Test.YtpmgmiiidfconaaGreatDoorPz03
import Derived.Test.YtpmgmiiidfconaaGreatDoorPz04
import Derived.MapKept
import Derived.Laws.IdiomRangeMap
import Derived.Laws.IdiomCopy
import Derived.WideKeyEntry
namespace Go.Ox
open Go.RowKit
/-- pairs of numbers, cell by cell -/
def pV (l : List (Int × Int)) : List Value := l.flatMap fun o => [.int .i64 o.1, .int .i64 o.2]
theorem pV_cons (a : Int × Int) (l : List (Int × Int)) : pV (a :: l) = .int .i64 a.1 :: .int .i64 a.2 :: pV l := rfl
theorem pV_app (l r : List (Int × Int)) : pV (l ++ r) = pV l ++ pV r := by unfold pV; rw [List.flatMap_append]
theorem pV_len (l : List (Int × Int)) : (pV l).length = l.length * 2 := by
  induction l with
  | nil => rfl
  | cons a l ih => rw [pV_cons, List.length_cons, List.length_cons, ih, List.length_cons]; omega
theorem pV_at : ∀ (l : List (Int × Int)) (i : Nat) (h : i < l.length), (pV l)[i * 2]? = some (.int .i64 l[i].1) ∧ (pV l)[i * 2 + 1]? = some (.int .i64 l[i].2)
  | a :: l, 0, h => ⟨rfl, rfl⟩
  | a :: l, i + 1, h => by
    have := pV_at l i (by simpa using h)
    rw [pV_cons, show (i + 1) * 2 = i * 2 + 1 + 1 by omega]
    simpa using this
theorem one_pV (l : List (Int × Int)) : ∀ u ∈ pV l, u.oneCell' = true := by
  intro u hu
  unfold pV at hu
  obtain ⟨o, _, hu⟩ := List.mem_flatMap.1 hu
  simp only [List.mem_cons, List.not_mem_nil, or_false] at hu
  rcases hu with rfl | rfl <;> rfl
theorem pV_drop (l : List (Int × Int)) (k : Nat) : (pV l).drop (k * 2) = pV (l.drop k) := by
  induction l generalizing k with
  | nil => simp [pV]
  | cons a l ih =>
    cases k with
    | zero => simp
    | succ k => rw [pV_cons, show (k + 1) * 2 = k * 2 + 1 + 1 by omega, List.drop_succ_cons, List.drop_succ_cons, ih, List.drop_succ_cons]
theorem pV_take (l : List (Int × Int)) (k : Nat) : (pV l).take (k * 2) = pV (l.take k) := by
  induction l generalizing k with
  | nil => simp [pV]
  | cons a l ih =>
    cases k with
    | zero => simp [pV]
    | succ k => rw [pV_cons, show (k + 1) * 2 = k * 2 + 1 + 1 by omega, List.take_succ_cons, List.take_succ_cons, ih, List.take_succ_cons, pV_cons]
/-- v reads as the pairs l -/
def RP (w : World) (v : Value) (l : List (Int × Int)) : Prop := Rd w 2 v l.length (pV l)
theorem RP.ext {w w' : World} {v : Value} {l : List (Int × Int)} (h : RP w v l) (he : Ext w w') : RP w' v l := Rd.ext h he
theorem RP.rd {w : World} {v : Value} {l : List (Int × Int)} (h : RP w v l) : Rd w 2 v l.length (pV l) := h
theorem RP.form {w : World} {v : Value} {l : List (Int × Int)} (h : RP w v l) : ∃ A c, v = .slice A l.length c := by
  obtain ⟨A, c, h, _⟩ := h
  exact ⟨A, c, h⟩
/-- the cells of a pair -/
theorem RP.at_ {w : World} {A : Option Addr} {n c : Nat} {l : List (Int × Int)} (h : RP w (.slice A n c) l) {k : Nat} (hk : k < l.length) :
    ∃ b o, A = some ⟨b, o, none⟩ ∧ w.cell? ⟨b, o + k * 2, none⟩ = some (.int .i64 l[k].1) ∧ w.cell? ⟨b, o + k * 2 + 1, none⟩ = some (.int .i64 l[k].2) := by
  obtain ⟨A', c', he, h⟩ := h
  injection he with e1 e2 e3
  subst e1 e2 e3
  obtain ⟨b, o, rfl⟩ := h.addr (by omega)
  obtain ⟨h1, h2⟩ := pV_at l k hk
  refine ⟨b, o, rfl, h.get h1, ?_⟩
  have := h.get h2
  rwa [← Nat.add_assoc] at this
theorem RP.nc {w : World} {A : Option Addr} {c n : Nat} {l : List (Int × Int)} (h : RP w (.slice A n c) l) : n = l.length ∧ l.length ≤ c ∧ c ≤ maxLen := by
  obtain ⟨A', c', he, h⟩ := h
  injection he with h1 h2 h3
  subst h3 h2
  exact ⟨rfl, h.nc, h.cm⟩
/-- a slice of the call's own that holds the pairs l -/
def OP (E base : Nat) (w : World) (v : Value) (l : List (Int × Int)) : Prop := w.ownsRow base E 2 v l.length (pV l)
theorem OP.rp {E base : Nat} {w : World} {v : Value} {l : List (Int × Int)} (h : OP E base w v l) : RP w v l := Rd.of_own h
theorem OP.own {E base : Nat} {w : World} {v : Value} {l : List (Int × Int)} (h : OP E base w v l) : w.ownsRow base E 2 v l.length (pV l) := h
theorem OP.ext {E base : Nat} {w w' : World} {v : Value} {l : List (Int × Int)} (h : OP E base w v l) (he : Ext w w') : OP E base w' v l := ownsRow_ext h he
theorem OP.low {E base base' : Nat} {w : World} {v : Value} {l : List (Int × Int)} (h : OP E base w v l) (hb : base' ≤ base) : OP E base' w v l := ownsRow_low h hb
theorem OP.nilS (E base : Nat) (w : World) : OP E base w (.slice none 0 0) [] := World.ownsRow_nil _ _ _ _
theorem OP.app {E base : Nat} {w : World} {v : Value} {l r : List (Int × Int)} (h : w.ownsRow base E 2 v (l.length + r.length) (pV l ++ pV r)) : OP E base w v (l ++ r) := by
  unfold OP
  rw [List.length_append, pV_app]
  exact h
theorem OP.of0 {E base : Nat} {w : World} {v : Value} {l : List (Int × Int)} (h : w.ownsRow base E 2 v (0 + l.length) ([] ++ pV l)) : OP E base w v l := by
  rw [Nat.zero_add, List.nil_append] at h
  exact h
/-- a literal of pairs -/
theorem RP.lit (w : World) (cs : Array Value) (E n : Nat) (l : List (Int × Int)) (hn : l.length = n) (hm : n ≤ 1000000) (h : cs.toList = pV l) : RP (w.alloc (.cells cs E)) (.slice (some ⟨w.heap.size, 0, none⟩) n n) l := by
  subst hn
  unfold RP
  rw [← h]
  exact Rd.lit w cs E l.length (by rw [← Array.length_toList, h, pV_len]) (by unfold maxLen; omega)
/-- two lists of one length, element by element -/
theorem list_eq_at {α : Type} [DecidableEq α] (l r : List α) (k : Nat) (hk : k < l.length) (hk2 : k < r.length) (ht : l.take k = r.take k) :
    (l[k] = r[k] → l.take (k + 1) = r.take (k + 1)) ∧ (l[k] ≠ r[k] → decide (l = r) = false) := by
  constructor
  · intro h
    rw [List.take_succ_eq_append_getElem hk, List.take_succ_eq_append_getElem hk2, ht, h]
  · intro h
    simp only [decide_eq_false_iff_not]
    intro he
    subst he
    exact h rfl
section
variable {w w' : World} {n : Nat} {T0 T1 T2 : TypeId} {a b c d e f : Value}
end
end Go.Ox
namespace Go.Ox
open Go.RowKit
/-- an element's cells -/
class Enc (α : Type) where
  k : Nat
  enc : α → List Value
  len : ∀ x, (enc x).length = k
  pos : 0 < k
  one : ∀ x, ∀ u ∈ enc x, u.oneCell' = true
section
variable {α : Type} [C : Enc α]
def eV (l : List α) : List Value := l.flatMap C.enc
theorem eV_cons (a : α) (l : List α) : eV (a :: l) = C.enc a ++ eV l := rfl
theorem eV_app (l r : List α) : eV (l ++ r) = eV l ++ eV r := by unfold eV; rw [List.flatMap_append]
theorem eV_len (l : List α) : (eV l).length = l.length * C.k := by
  induction l with
  | nil => simp [eV]
  | cons a l ih => rw [eV_cons, List.length_append, ih, C.len, List.length_cons, Nat.add_mul]; omega
theorem eV_at : ∀ (l : List α) (i : Nat) (h : i < l.length) (j : Nat), j < C.k → (eV l)[i * C.k + j]? = (C.enc l[i])[j]?
  | a :: l, 0, h, j, hj => by rw [eV_cons, Nat.zero_mul, Nat.zero_add, List.getElem?_append_left (by rw [C.len]; exact hj)]; rfl
  | a :: l, i + 1, h, j, hj => by
    have := eV_at l i (by simpa using h) j hj
    rw [eV_cons, List.getElem?_append_right (by rw [C.len, Nat.add_mul]; omega), C.len, show (i + 1) * C.k + j - C.k = i * C.k + j by rw [Nat.add_mul]; omega]
    simpa using this
theorem one_eV (l : List α) : ∀ u ∈ eV l, u.oneCell' = true := by
  intro u hu
  obtain ⟨o, _, hu⟩ := List.mem_flatMap.1 hu
  exact C.one o u hu
theorem eV_drop (l : List α) (n : Nat) : (eV l).drop (n * C.k) = eV (l.drop n) := by
  induction l generalizing n with
  | nil => simp [eV]
  | cons a l ih =>
    cases n with
    | zero => simp
    | succ n =>
      have hl := C.len a
      rw [eV_cons, List.drop_append, List.drop_eq_nil_of_le (by rw [Nat.add_mul]; omega), List.nil_append, show (n + 1) * C.k - (C.enc a).length = n * C.k by rw [Nat.add_mul]; omega, ih, List.drop_succ_cons]
theorem eV_take (l : List α) (n : Nat) : (eV l).take (n * C.k) = eV (l.take n) := by
  induction l generalizing n with
  | nil => simp [eV]
  | cons a l ih =>
    cases n with
    | zero => simp [eV]
    | succ n =>
      have hl := C.len a
      rw [eV_cons, List.take_append, List.take_of_length_le (by rw [Nat.add_mul]; omega), show (n + 1) * C.k - (C.enc a).length = n * C.k by rw [Nat.add_mul]; omega, ih, List.take_succ_cons, eV_cons]
/-- v reads as l -/
def RE (w : World) (v : Value) (l : List α) : Prop := Rd w C.k v l.length (eV l)
variable {w w' : World} {v : Value} {l r : List α} {E base base' : Nat}
theorem RE.ext (h : RE w v l) (he : Ext w w') : RE w' v l := Rd.ext h he
theorem RE.mk (h : Rd w C.k v l.length (eV l)) : RE w v l := h
theorem RE.nilS (w : World) : RE w (.slice none 0 0) ([] : List α) := Rd.nil _ _
theorem RE.form (h : RE w v l) : ∃ A c, v = .slice A l.length c := by
  obtain ⟨A, c, h, _⟩ := h
  exact ⟨A, c, h⟩
theorem RE.nc {A : Option Addr} {c n : Nat} (h : RE w (.slice A n c) l) : n = l.length ∧ l.length ≤ c ∧ c ≤ maxLen := by
  obtain ⟨A', c', he, h⟩ := h
  injection he with h1 h2 h3
  subst h3 h2
  exact ⟨rfl, h.nc, h.cm⟩
/-- the cells of an element -/
theorem RE.at_ {A : Option Addr} {n c : Nat} (h : RE w (.slice A n c) l) {i : Nat} (hi : i < l.length) :
    ∃ b o, A = some ⟨b, o, none⟩ ∧ ∀ j u, (C.enc l[i])[j]? = some u → w.cell? ⟨b, o + i * C.k + j, none⟩ = some u := by
  obtain ⟨A', c', he, h⟩ := h
  injection he with e1 e2 e3
  subst e1 e2 e3
  obtain ⟨b, o, rfl⟩ := h.addr (by omega) C.pos
  refine ⟨b, o, rfl, fun j u hu => ?_⟩
  have hj : j < C.k := by
    rw [← C.len l[i]]
    rcases Nat.lt_or_ge j (C.enc l[i]).length with hj | hj
    · exact hj
    · rw [List.getElem?_eq_none hj] at hu; cases hu
  have := h.get (j := i * C.k + j) (u := u) (by rw [eV_at l i hi j hj]; exact hu)
  rwa [← Nat.add_assoc] at this
/-- a slice of the call's own -/
def OE (E base : Nat) (w : World) (v : Value) (l : List α) : Prop := w.ownsRow base E C.k v l.length (eV l)
theorem OE.re (h : OE E base w v l) : RE w v l := Rd.of_own h
theorem OE.own (h : OE E base w v l) : w.ownsRow base E C.k v l.length (eV l) := h
theorem OE.mk (h : w.ownsRow base E C.k v l.length (eV l)) : OE E base w v l := h
theorem OE.ext (h : OE E base w v l) (he : Ext w w') : OE E base w' v l := ownsRow_ext h he
theorem OE.low (h : OE E base w v l) (hb : base' ≤ base) : OE E base' w v l := ownsRow_low h hb
theorem OE.nilS (E base : Nat) (w : World) : OE E base w (.slice none 0 0) ([] : List α) := World.ownsRow_nil _ _ _ _
theorem OE.app (h : w.ownsRow base E C.k v (l.length + r.length) (eV l ++ eV r)) : OE E base w v (l ++ r) := by
  unfold OE
  rw [List.length_append, eV_app]
  exact h
theorem OE.grown {row : Option Nat} (h : OE E base w v l) (hg : w.grownBy w' row) (hv : ∀ k, v.ownBlock = some k → row ≠ some k) : OE E base w' v l :=
  ownsRow_grown h hg hv
/-- a literal -/
theorem RE.lit (w : World) (cs : Array Value) (E n : Nat) (l : List α) (hn : l.length = n) (hm : n ≤ 1000000) (h : cs.toList = eV l) : RE (w.alloc (.cells cs E)) (.slice (some ⟨w.heap.size, 0, none⟩) n n) l := by
  subst hn
  unfold RE
  rw [← h]
  exact Rd.lit w cs E l.length (by rw [← Array.length_toList, h, eV_len]) (by unfold maxLen; omega)
theorem RE.lo {t e : TypeId} {z : Value} {bytes c : Nat} {P : Program} {A : Option Addr} (el : Elem P t e z C.k bytes) (h : RE w (.slice A l.length c) l) {k : Nat} (hk : k ≤ l.length) :
    ∃ A', (∀ w', (Instr.slice t (.slice A l.length c) (some (.int .i64 (k : Int))) none none).run P w' = .ok (.slice A' (l.length - k) (c - k)) w') ∧ RE w (.slice A' (l.length - k) (c - k)) (l.drop k) := by
  obtain ⟨A', h1, h2⟩ := Rd.lo el h hk (k : Int) rfl
  rw [eV_drop] at h2
  refine ⟨A', h1, ?_⟩
  unfold RE
  rw [List.length_drop]
  exact h2
theorem RE.hi {t e : TypeId} {z : Value} {bytes c : Nat} {P : Program} {A : Option Addr} (el : Elem P t e z C.k bytes) (h : RE w (.slice A l.length c) l) {k : Nat} (hk : k ≤ l.length) :
    (∀ w', (Instr.slice t (.slice A l.length c) none (some (.int .i64 (k : Int))) none).run P w' = .ok (.slice A k c) w') ∧ RE w (.slice A k c) (l.take k) := by
  obtain ⟨A0, c0, he, h⟩ := h
  injection he with h1 h2 h3
  subst h1; subst h3
  obtain ⟨i, hi, hz, hs, hb⟩ := el.info
  have hnc := h.nc
  refine ⟨fun w' => ?_, ?_⟩
  · have : ((k : Int) ≤ (c : Int)) := by omega
    simp [Instr.slice, run_underlying el.under, Instr.sliceBounds, run_sliceBound w' .i64 (k : Int) c .sliceAcap (by omega) this, sizeOf, typeInfo, hi]
    cases A <;> simp [Addr.add]
  · refine ⟨A, c, ?_, ?_⟩
    · rw [List.length_take, Nat.min_eq_left hk]
    · rw [List.length_take, Nat.min_eq_left hk, ← eV_take]
      exact h.take hk
/-- append of what reads as r to what is the call's own -/
theorem wpList_appE {P : Program} {t e : TypeId} {z : Value} {bytes : Nat} {ops : Array Oper} {rest : List Oper} {o : Oper} {a : Act} {Q : Exit → Act → World → Prop} (hgd : o.guard = none) (el : Elem P t e z C.k bytes) (w : World) (s x : Operand)
    (ho : o.op = .call { callee := .builtin .append, args := #[s, x], argTypes := #[t, t] })
    (base : Nat) (v vx : Value) (l r : List α) (hs : a.eval s = v) (hown : OE e base w v l) (hx : a.eval x = vx) (hr : RE w vx r)
    (hb : (l.length + r.length) * bytes ≤ 140737488355328) (hm : l.length + r.length ≤ maxLen) (hbase : base ≤ w.heap.size)
    (h : ∀ v' w', OE e base w' v' (l ++ r) → Below base w w' → w.grownBy w' v.ownBlock → wpList P ops Q rest (a.put o.dst v') w') : wpList P ops Q (o :: rest) a w :=
  wpList_app hgd el w s x ho base v l.length (eV l) hs hown vx r.length (eV r) hx hr (one_eV r) hb hm hbase fun v' w' ha =>
    h v' w' (OE.app ha.own) (Below.grown (Below.refl _ _) ha.grown hbase fun k hk => (hown.own.lt k hk).1) ha.grown
end
end Go.Ox
namespace Go.Ox
open Go.RowKit
section
variable {b : Nat} {w w' a c d : World}
end
section
variable {P : Program} {T t e : TypeId} {κ ν : Type} [DecidableEq κ] {kV : κ → Value} {vV : ν → Value}
end
end Go.Ox
namespace Go.Ox
open Go.RowKit
/-- only blocks of Q changed -/
structure ExtQ (Q : Nat → Prop) (w w' : World) : Prop where
  os : w'.os = w.os
  tape : w'.tape = w.tape
  output : w'.output = w.output
  size : w.heap.size ≤ w'.heap.size
  block : ∀ k, k < w.heap.size → ¬ Q k → w'.heap[k]? = w.heap[k]?
section
variable {Q Q' : Nat → Prop} {w w' a b c w0 : World}
theorem ExtQ.refl (Q : Nat → Prop) (w : World) : ExtQ Q w w := ⟨rfl, rfl, rfl, Nat.le_refl _, fun _ _ _ => rfl⟩
theorem ExtQ.trans (h : ExtQ Q a b) (k : ExtQ Q b c) : ExtQ Q a c :=
  ⟨k.os.trans h.os, k.tape.trans h.tape, k.output.trans h.output, Nat.le_trans h.size k.size, fun x hx hn => (k.block x (Nat.lt_of_lt_of_le hx h.size) hn).trans (h.block x hx hn)⟩
theorem ExtQ.of (h : Ext a b) : ExtQ Q a b := ⟨h.os, h.tape, h.output, h.size, fun _ hk _ => h.block hk⟩
theorem ExtQ.mono (h : ExtQ Q a b) (hq : ∀ k, Q k → Q' k) : ExtQ Q' a b := ⟨h.os, h.tape, h.output, h.size, fun k hk hn => h.block k hk fun hq' => hn (hq k hq')⟩
theorem ExtQ.ext (h : ExtQ Q a b) (hq : ∀ k, Q k → a.heap.size ≤ k) : Ext a b := ⟨h.os, h.tape, h.output, h.size, fun k hk => h.block k hk fun q => by have := hq k q; omega⟩
theorem Ext.andQ (h : Ext w0 a) (k : ExtQ Q a b) (hq : ∀ k, Q k → w0.heap.size ≤ k) : Ext w0 b :=
  Below.trans h ⟨k.os, k.tape, k.output, k.size, fun x hx => k.block x (Nat.lt_of_lt_of_le hx h.size) fun q => by have := hq x q; omega⟩
theorem ExtQ.grown {row : Option Nat} (hg : a.grownBy b row) (hq : ∀ k, row = some k → Q k) : ExtQ Q a b :=
  ⟨hg.os, hg.tape, hg.output, hg.size, fun k hk hn => hg.block k hk fun e => hn (hq k e.symm)⟩
theorem ExtQ.setCell (h : ExtQ Q a b) {p : Addr} (hq : Q p.block) (u : Value) : ExtQ Q a (b.setCell p u) :=
  h.trans ⟨rfl, rfl, rfl, by simp [World.setCell], fun k _ hn => Below.heap_setCell b p u k fun e => hn (by rw [e]; exact hq)⟩
theorem ExtQ.setCells (h : ExtQ Q a b) {g : Nat} (hq : Q g) : ∀ (vs : List Value) (o : Nat), ExtQ Q a (b.setCells g o vs) := by
  intro vs
  induction vs generalizing b with
  | nil => exact fun o => h
  | cons v vs ih => exact fun o => ih (h.setCell (p := ⟨g, o, none⟩) hq v) (o + 1)
/-- a value's block, if it holds something, is none of Q's -/
def OffQ (Q : Nat → Prop) (v : Value) (n : Nat) : Prop := n ≠ 0 → ∀ A m c ad, v = .slice A m c → A = some ad → ¬ Q ad.block
theorem Rd.extQ {size n : Nat} {v : Value} {xs : List Value} (h : Rd w size v n xs) (he : ExtQ Q w w') (hq : OffQ Q v n) : Rd w' size v n xs := by
  obtain ⟨A, c, rfl, h⟩ := h
  refine ⟨A, c, rfl, h.len, h.nc, h.cm, h.nil, fun ad hA j x hx => ?_⟩
  obtain ⟨h1, h2⟩ := h.at_ ad hA j x hx
  refine ⟨h1, ?_⟩
  have hn : n ≠ 0 := by
    intro h0
    have := h.len
    rw [h0, Nat.zero_mul] at this
    rw [List.eq_nil_of_length_eq_zero this] at hx
    cases hx
  exact (World.cell?_of_block (a := ⟨ad.block, ad.off + j, none⟩) (he.block ad.block (World.block_lt_of_cell? w ⟨ad.block, ad.off + j, none⟩ h2) (hq hn A n c ad rfl hA))).trans h2
/-- what has a cell lies in the heap -/
theorem Rd.offNew {size n : Nat} {v : Value} {xs : List Value} (h : Rd w size v n xs) (hs : 0 < size) (hq : ∀ k, Q k → w.heap.size ≤ k) : OffQ Q v n := by
  rintro hn A k c ad rfl rfl hQ
  obtain ⟨A', c', he, h⟩ := h
  injection he with e1 e2 e3
  subst e1 e2 e3
  have h0 : 0 < xs.length := by rw [h.len]; exact Nat.mul_pos (by omega) hs
  obtain ⟨_, h2⟩ := h.at_ _ rfl 0 _ (List.getElem?_eq_getElem h0)
  have h3 := World.block_lt_of_cell? w ⟨ad.block, ad.off + 0, none⟩ h2
  have := hq _ hQ
  simp only at h3
  omega
/-- seen from worlds in which the new blocks count as changed -/
theorem Rd.extNew {size n : Nat} {v : Value} {xs : List Value} (h : Rd w size v n xs) (hs : 0 < size) (he : ExtQ Q w w') (hq : ∀ k, Q k → w.heap.size ≤ k) : Rd w' size v n xs := h.extQ he (h.offNew hs hq)
theorem ownsRow_extQ {base E size n : Nat} {v : Value} {xs : List Value} (h : w.ownsRow base E size v n xs) (he : ExtQ Q w w') (hq : ∀ k, v.ownBlock = some k → ¬ Q k) : w'.ownsRow base E size v n xs := by
  obtain ⟨h1, h2⟩ := h
  refine ⟨h1, ?_⟩
  rcases h2 with h2 | ⟨g, cap, cur, hv, hb, hh, r⟩
  · exact .inl h2
  · refine .inr ⟨g, cap, cur, hv, hb, ?_, r⟩
    exact (he.block g (Array.getElem?_eq_some_iff.1 hh).1 (hq g (by rw [hv]; rfl))).trans hh
theorem Blk.extQ {t : TypeId} {cs : Array Value} {k : Nat} (h : Blk w k t cs) (he : ExtQ Q w w') (hk : ¬ Q k) : Blk w' k t cs := (he.block k h.lt hk).trans h
end
def Has (cur : Array Value) (o : Nat) (cs : List Value) : Prop := ∀ j u, cs[j]? = some u → cur[o + j]? = some u
def setL : Array Value → Nat → List Value → Array Value
  | cur, _, [] => cur
  | cur, o, u :: cs => setL (cur.setIfInBounds o u) (o + 1) cs
theorem setL_size : ∀ (cs : List Value) (cur : Array Value) (o : Nat), (setL cur o cs).size = cur.size
  | [], _, _ => rfl
  | u :: cs, cur, o => by unfold setL; rw [setL_size cs]; simp
theorem setL_out : ∀ (cs : List Value) (cur : Array Value) (o j : Nat), (j < o ∨ o + cs.length ≤ j) → (setL cur o cs)[j]? = cur[j]?
  | [], _, _, _, _ => rfl
  | u :: cs, cur, o, j, h => by
    unfold setL
    rw [List.length_cons] at h
    rw [setL_out cs _ _ j (by omega), Array.getElem?_setIfInBounds_ne (by omega)]
theorem setL_in : ∀ (cs : List Value) (cur : Array Value) (o : Nat), o + cs.length ≤ cur.size → Has (setL cur o cs) o cs
  | [], _, _, _ => fun j u h => by simp at h
  | v :: cs, cur, o, h => by
    rw [List.length_cons] at h
    intro j u hj
    unfold setL
    cases j with
    | zero =>
      rw [setL_out cs _ _ _ (by omega)]
      simp at hj
      subst hj
      simp [Array.getElem?_setIfInBounds]
      omega
    | succ j =>
      have := setL_in cs (cur.setIfInBounds o v) (o + 1) (by simpa using (by omega : o + 1 + cs.length ≤ cur.size)) j u (by simpa using hj)
      rw [show o + (j + 1) = o + 1 + j by omega]; exact this
theorem Has.out {cur : Array Value} {o q : Nat} {cs ds : List Value} (h : Has cur o cs) (hd : o + cs.length ≤ q ∨ q + ds.length ≤ o) : Has (setL cur q ds) o cs := fun j u hj => by
  have hlt : j < cs.length := (List.getElem?_eq_some_iff.1 hj).1
  rw [setL_out ds cur q (o + j) (by omega)]; exact h j u hj
theorem Has.app {cur : Array Value} {o q : Nat} {cs ds : List Value} (h : Has cur o cs) (k : Has cur q ds) (hq : q = o + cs.length) : Has cur o (cs ++ ds) := fun j u hj => by
  subst hq
  by_cases hlt : j < cs.length
  · rw [List.getElem?_append_left hlt] at hj; exact h j u hj
  · rw [List.getElem?_append_right (by omega)] at hj
    have := k _ u hj
    rwa [show o + cs.length + (j - cs.length) = o + j by omega] at this
theorem Has.take_ {cur : Array Value} {n : Nat} {cs : List Value} (h : Has cur 0 cs) (hn : cs.length = n) (_hs : n ≤ cur.size) : cur.toList.take n = cs := by
  apply List.ext_getElem?
  intro j
  rw [List.getElem?_take]
  split
  · rename_i hj
    have := h j _ (List.getElem?_eq_getElem (by omega))
    rw [Nat.zero_add] at this
    rw [Array.getElem?_toList, this, List.getElem?_eq_getElem]
  · rename_i hj
    rw [List.getElem?_eq_none (by omega)]
theorem Has.of_take {cur : Array Value} {n : Nat} {cs : List Value} (h : cur.toList.take n = cs) : Has cur 0 cs := fun j u hj => by
  rw [← h, List.getElem?_take] at hj
  split at hj
  · rw [Nat.zero_add]; simpa using hj
  · cases hj
theorem Blk.setCells {w : World} {b : Nat} {E : TypeId} : ∀ (cs : List Value) (o : Nat) {w : World} {cur : Array Value}, Blk w b E cur → Blk (w.setCells b o cs) b E (setL cur o cs)
  | [], _, _, _, h => h
  | u :: cs, o, _, _, h => Blk.setCells (w := w) cs (o + 1) (h.set_ o u)
section
variable {P : Program} {t e : TypeId} {z : Value} {size bytes : Nat}
end
section
variable {P : Program} {t e : TypeId} {z : Value} {size bytes : Nat}
end
section
variable {α σ : Type} {del : σ → α → Bool × σ}
end
end Go.Ox
namespace Go.Ox
open Go.RowKit
/-- v is a slice whose elements are what P says -/
structure RV {β : Type} (R : World → Value → β → Prop) (w : World) (v : Value) (ls : List β) : Prop where
  ex : ∃ vs : List Value, Rd w 1 v ls.length vs ∧ ∀ (k : Nat) (hk : k < ls.length), ∃ u, vs[k]? = some u ∧ R w u ls[k]
section
variable {β : Type} {R : World → Value → β → Prop} {w w' : World} {v : Value} {ls : List β}
theorem RV.ext (h : RV R w v ls) (hR : ∀ u x, R w u x → R w' u x) (he : Ext w w') : RV R w' v ls := by
  obtain ⟨vs, h1, h2⟩ := h.ex
  exact ⟨vs, h1.ext he, fun k hk => by obtain ⟨u, hu, hr⟩ := h2 k hk; exact ⟨u, hu, hR _ _ hr⟩⟩
theorem RV.form (h : RV R w v ls) : ∃ A c, v = .slice A ls.length c := by
  obtain ⟨vs, ⟨A, c, h, _⟩, _⟩ := h.ex
  exact ⟨A, c, h⟩
theorem RV.nil (R : World → Value → β → Prop) (w : World) : RV R w (.slice none 0 0) [] := ⟨[], Rd.nil _ _, fun _ hk => absurd hk (Nat.not_lt_zero _)⟩
theorem RV.at_ {A : Option Addr} {n c : Nat} (h : RV R w (.slice A n c) ls) {k : Nat} (hk : k < ls.length) :
    ∃ b o u, A = some ⟨b, o, none⟩ ∧ w.cell? ⟨b, o + k, none⟩ = some u ∧ R w u ls[k] := by
  obtain ⟨vs, ⟨A', c', he, hr⟩, h2⟩ := h.ex
  injection he with e1 e2 e3
  subst e1
  obtain ⟨b, o, rfl⟩ := hr.addr (by omega)
  obtain ⟨u, hu, hru⟩ := h2 k hk
  exact ⟨b, o, u, rfl, hr.get hu, hru⟩
end
section
variable {α : Type} [C : Enc α] {T E base : Nat} {w w' : World} {v v' : Value} {ls : List (List α)} {us : List Value}
theorem OE.lt {u : Value} {l : List α} (h : OE E base w u l) {g : Nat} (hg : u.ownBlock = some g) : base ≤ g ∧ g < w.heap.size := h.own.lt g hg
end
end Go.Ox
namespace Go.Ox
open Go.RowKit
section
variable {P : Program} {T t e : TypeId} {κ ν : Type} [DecidableEq κ] {kV : κ → Value} {vV : ν → Value} {z : ν}
end
end Go.Ox
namespace Go.Ox
open Go.RowKit
instance encPair : Enc (Int × Int) where
  k := 2
  enc x := [.int .i64 x.1, .int .i64 x.2]
  len _ := rfl
  pos := by omega
  one _ := by intro u hu; simp at hu; rcases hu with rfl | rfl <;> rfl
theorem RE.rp {w : World} {v : Value} {l : List (Int × Int)} (h : RE w v l) : RP w v l := h
theorem OP.oe {E base : Nat} {w : World} {v : Value} {l : List (Int × Int)} (h : OP E base w v l) : OE E base w v l := h
end Go.Ox
