/-
  RowE, packed: what the claim needs of them.
-/
import Derived.Test.YtdkejfjcchlnpaaGreatFn03
import Derived.Test.YtdkejfjcchlnpaaGreatFn05
import Derived.WideKeyEntry
namespace Go.Ox
open Go.RowKit
class Enc (α : Type) where
 k : Nat
 enc : α → List Value
 len : ∀ x, (enc x).length = k
 pos : 0 < k
 one : ∀ x, ∀ u ∈ enc x, u.oneCell' = true
section
variable {α : Type} [C : Enc α]
def eV (l : List α) : List Value := l.flatMap C.enc
theorem a2w (a : α) (l : List α) : eV (a :: l) = C.enc a ++ eV l := rfl
theorem b2H (l r : List α) : eV (l ++ r) = eV l ++ eV r := by unfold eV; rw [List.flatMap_append]
theorem a3V (l : List α) : (eV l).length = l.length * C.k := by
 induction l with
 | nil => simp [eV]
 | cons a l ih => rw [a2w, List.length_append, ih, C.len, List.length_cons, Nat.add_mul]; omega
theorem eV_at : ∀ (l : List α) (i : Nat) (h : i < l.length) (j : Nat), j < C.k → (eV l)[i * C.k + j]? = (C.enc l[i])[j]?
 | a :: l, 0, h, j, hj => by rw [a2w, Nat.zero_mul, Nat.zero_add, List.getElem?_append_left (by rw [C.len]; exact hj)]; rfl
 | a :: l, i + 1, h, j, hj => by
  have := eV_at l i (by simpa using h) j hj
  rw [a2w, List.getElem?_append_right (by rw [C.len, Nat.add_mul]; omega), C.len, show (i + 1) * C.k + j - C.k = i * C.k + j by rw [Nat.add_mul]; omega]
  simpa using this
theorem a7A (l : List α) : ∀ u ∈ eV l, u.oneCell' = true := by
 intro u hu;obtain ⟨o, _, hu⟩ := List.mem_flatMap.1 hu;exact C.one o u hu
theorem a9i (l : List α) (n : Nat) : (eV l).drop (n * C.k) = eV (l.drop n) := by
 induction l generalizing n with
 | nil => simp [eV]
 | cons a l ih =>
 cases n with
 | zero => simp
 | succ n =>
 have hl := C.len a;rw [a2w, List.drop_append, List.drop_eq_nil_of_le (by rw [Nat.add_mul]; omega), List.nil_append, show (n + 1) * C.k - (C.enc a).length = n * C.k by rw [Nat.add_mul]; omega, ih, List.drop_succ_cons]
theorem a9j (l : List α) (n : Nat) : (eV l).take (n * C.k) = eV (l.take n) := by
 induction l generalizing n with
 | nil => simp [eV]
 | cons a l ih =>
 cases n with
 | zero => simp [eV]
 | succ n =>
 have hl := C.len a;rw [a2w, List.take_append, List.take_of_length_le (by rw [Nat.add_mul]; omega), show (n + 1) * C.k - (C.enc a).length = n * C.k by rw [Nat.add_mul]; omega, ih, List.take_succ_cons, a2w]
def RE (w : World) (v : Value) (l : List α) : Prop := Rd w C.k v l.length (eV l)
variable {w w' : World} {v : Value} {l r : List α} {E base base' : Nat}
theorem RE.ext (h : RE w v l) (he : Ext w w') : RE w' v l := Rd.ext h he
theorem RE.rd (h : RE w v l) : Rd w C.k v l.length (eV l) := h
theorem RE.a2F (w : World) : RE w (.slice none 0 0) ([] : List α) := Rd.nil _ _
theorem RE.form (h : RE w v l) : ∃ A c, v = .slice A l.length c := by
 obtain ⟨A, c, h, _⟩ := h;exact ⟨A, c, h⟩
theorem RE.nc {A : Option Addr} {c n : Nat} (h : RE w (.slice A n c) l) : n = l.length ∧ l.length ≤ c ∧ c ≤ maxLen := by
 obtain ⟨A', c', he, h⟩ := h;injection he with h1 h2 h3
 subst h3 h2;exact ⟨rfl, h.nc, h.cm⟩
theorem RE.at_ {A : Option Addr} {n c : Nat} (h : RE w (.slice A n c) l) {i : Nat} (hi : i < l.length) :
 ∃ b o, A = some ⟨b, o, none⟩ ∧ ∀ j u, (C.enc l[i])[j]? = some u → w.cell? ⟨b, o + i * C.k + j, none⟩ = some u := by
 obtain ⟨A', c', he, h⟩ := h;injection he with e1 e2 e3
 subst e1 e2 e3;obtain ⟨b, o, rfl⟩ := h.addr (by omega) C.pos
 refine ⟨b, o, rfl, fun j u hu => ?_⟩
 have hj : j < C.k := by
  rw [← C.len l[i]]
  rcases Nat.lt_or_ge j (C.enc l[i]).length with hj | hj
  · exact hj
  rw [List.getElem?_eq_none hj] at hu; cases hu
 have := h.get (j := i * C.k + j) (u := u) (by rw [eV_at l i hi j hj]; exact hu)
 rwa [← Nat.add_assoc] at this
def OE (E base : Nat) (w : World) (v : Value) (l : List α) : Prop := w.ownsRow base E C.k v l.length (eV l)
theorem OE.re (h : OE E base w v l) : RE w v l := Rd.a3t h
theorem OE.own (h : OE E base w v l) : w.ownsRow base E C.k v l.length (eV l) := h
theorem OE.mk (h : w.ownsRow base E C.k v l.length (eV l)) : OE E base w v l := h
theorem OE.ext (h : OE E base w v l) (he : Ext w w') : OE E base w' v l := a1N h he
theorem OE.low (h : OE E base w v l) (hb : base' ≤ base) : OE E base' w v l := a2u h hb
theorem OE.a2F (E base : Nat) (w : World) : OE E base w (.slice none 0 0) ([] : List α) := World.ownsRow_nil _ _ _ _
theorem OE.app (h : w.ownsRow base E C.k v (l.length + r.length) (eV l ++ eV r)) : OE E base w v (l ++ r) := by
 unfold OE;rw [List.length_append, b2H];exact h
theorem OE.of0 (h : w.ownsRow base E C.k v (0 + l.length) ([] ++ eV l)) : OE E base w v l := by
 rw [Nat.zero_add, List.nil_append] at h;exact h
theorem OE.grown {row : Option Nat} (h : OE E base w v l) (hg : w.grownBy w' row) (hv : ∀ k, v.ownBlock = some k → row ≠ some k) : OE E base w' v l :=
 a5t h hg hv
theorem RE.lit (w : World) (cs : Array Value) (E n : Nat) (l : List α) (hn : l.length = n) (hm : n ≤ 1000000) (h : cs.toList = eV l) : RE (w.alloc (.cells cs E)) (.slice (some ⟨w.heap.size, 0, none⟩) n n) l := by
 subst hn;unfold RE;rw [← h];exact Rd.lit w cs E l.length (by rw [← Array.length_toList, h, a3V]) (by unfold maxLen; omega)
theorem a0y {P : Program} {t e : TypeId} {z : Value} {bytes : Nat} {ops : Array Oper} {rest : List Oper} {o : Oper} {a : Act} {Q : Exit → Act → World → Prop} (hgd : o.guard = none) (el : Elem P t e z C.k bytes) (w : World) (s x : Operand)
 (ho : o.op = .call { callee := .builtin .append, args := #[s, x], argTypes := #[t, t] })
 (base : Nat) (v vx : Value) (l r : List α) (hs : a.eval s = v) (hown : OE e base w v l) (hx : a.eval x = vx) (hr : RE w vx r)
 (hb : (l.length + r.length) * bytes ≤ 140737488355328) (hm : l.length + r.length ≤ maxLen) (hbase : base ≤ w.heap.size)
 (h : ∀ v' w', OE e base w' v' (l ++ r) → Below base w w' → w.grownBy w' v.ownBlock → wpList P ops Q rest (a.put o.dst v') w') : wpList P ops Q (o :: rest) a w :=
 a0J hgd el w s x ho base v l.length (eV l) hs hown vx r.length (eV r) hx hr (a7A r) hb hm hbase fun v' w' ha =>
  h v' w' (OE.app ha.own) (Below.grown (Below.refl _ _) ha.grown hbase fun k hk => (hown.own.lt k hk).1) ha.grown
end
end Go.Ox
namespace Go.Ox
open Go.RowKit
structure ExtM (b : Nat) (w w' : World) : Prop where
 os : w'.os = w.os
 tape : w'.tape = w.tape
 output : w'.output = w.output
 size : w.heap.size ≤ w'.heap.size
 block : ∀ k, k < w.heap.size → k ≠ b → w'.heap[k]? = w.heap[k]?
 cells : ∀ a v, w.cell? a = some v → w'.cell? a = some v
section
variable {b : Nat} {w w' a c d : World}
theorem ExtM.refl (b : Nat) (w : World) : ExtM b w w := ⟨rfl, rfl, rfl, Nat.le_refl _, fun _ _ _ => rfl, fun _ _ h => h⟩
theorem ExtM.trans (h : ExtM b a c) (k : ExtM b c d) : ExtM b a d :=
 ⟨k.os.trans h.os, k.tape.trans h.tape, k.output.trans h.output, Nat.le_trans h.size k.size, fun x hx hn => (k.block x (Nat.lt_of_lt_of_le hx h.size) hn).trans (h.block x hx hn), fun x v hv => k.cells x v (h.cells x v hv)⟩
theorem ExtM.of (h : Ext a c) : ExtM b a c := ⟨h.os, h.tape, h.output, h.size, fun _ hk _ => h.block hk, fun _ _ hv => h.cell hv⟩
theorem Ext.andM {w0 : World} (h : Ext w0 a) (k : ExtM b a c) (hb : w0.heap.size ≤ b) : Ext w0 c :=
 Below.trans h ⟨k.os, k.tape, k.output, k.size, fun x hx => k.block x (Nat.lt_of_lt_of_le hx h.size) (by omega)⟩
theorem RdA.a1Q {size n k : Nat} {A : Option Addr} {xs : List Value} (h : RdA w size A n k xs) (he : ExtM b w w') : RdA w' size A n k xs :=
 ⟨h.len, h.nc, h.cm, h.nil, fun ad ha j u hu => ⟨(h.at_ ad ha j u hu).1, he.cells _ _ (h.at_ ad ha j u hu).2⟩⟩
theorem Rd.a1Q {size n : Nat} {v : Value} {xs : List Value} (h : Rd w size v n xs) (he : ExtM b w w') : Rd w' size v n xs := by
 obtain ⟨A, c, rfl, h⟩ := h;exact ⟨A, c, rfl, h.a1Q he⟩
theorem Blk.a1Q {t : TypeId} {cs : Array Value} {k : Nat} (h : Blk w k t cs) (he : ExtM b w w') (hk : k ≠ b) : Blk w' k t cs := (he.block k h.lt hk).trans h
theorem ExtM.set {o o' : Obj} (hb : w.heap[b]? = some o) (ho : ∀ cs t m, o ≠ .cells cs t m) : ExtM b w { w with heap := w.heap.setIfInBounds b o' } := by
 refine ⟨rfl, rfl, rfl, by simp, fun k _ hk => by simp [Ne.symm hk], fun x v hv => ?_⟩
 by_cases hx : x.block = b
 · exfalso
   unfold World.cell? at hv;rw [hx, hb] at hv
   cases o <;> simp at hv
   exact ho _ _ _ rfl
 rw [← hv];unfold World.cell?;simp [Ne.symm hx]
end
structure KeyE (P : Program) (T : TypeId) {κ : Type} [DecidableEq κ] (kV : κ → Value) : Prop where
 eq : ∀ x y w, (Op.equal T (kV x) (kV y)).run P w = .ok (decide (x = y)) w
 chk : ∀ e x w, (Instr.checkKey e 10000 T (kV x)).run P w = .ok () w
 now : ∀ x y es i (b : Value) (n : Nat), ∃ d, P.underlying T = some d ∧ Instr.findNow d (kV x) [] i = some none ∧ Instr.findNow d (kV x) (⟨kV y, b, n⟩ :: es) i = none
 bits : ∀ x, Instr.sameBits 10000 (kV x) (kV x) = true
section
variable {P : Program} {T t e : TypeId} {κ ν : Type} [DecidableEq κ] {kV : κ → Value} {vV : ν → Value}
def fdE (k : κ) : List (κ × ν) → Nat → Option (Nat × ν)
 | [], _ => none
 | x :: l, i => if k = x.1 then some (i, x.2) else fdE k l (i + 1)
def b2I (k : κ) (n : ν) : List (κ × ν) → List (κ × ν)
 | [] => []
 | x :: l => if k = x.1 then (k, n) :: l else x :: b2I k n l
def a99 (k : κ) : List (κ × ν) → List (κ × ν)
 | [] => []
 | x :: l => if k = x.1 then l else x :: a99 k l
def ofE (k : κ) (l : List (κ × ν)) : Option ν := (fdE k l 0).map (·.2)
theorem a1v {k : κ} : ∀ {l : List (κ × ν)} {i : Nat}, fdE k l i = none ↔ ∀ x ∈ l, x.1 ≠ k
 | [], i => by simp [fdE]
 | x :: l, i => by
  unfold fdE
  split
  · rename_i h; simp; intro h2; exact absurd h.symm h2
  · rename_i h
    rw [a1v];simp only [List.mem_cons, forall_eq_or_imp];exact ⟨fun q => ⟨fun h2 => h h2.symm, q⟩, fun q => q.2⟩
theorem a3L {k : κ} : ∀ {l : List (κ × ν)} {i j : Nat} {n : ν}, fdE k l i = some (j, n) → (k, n) ∈ l
 | [], i, j, n, h => by simp [fdE] at h
 | x :: l, i, j, n, h => by
  unfold fdE at h
  split at h
  · rename_i hk
    injection h with h; injection h with h1 h2
    subst hk h2;simp
  · exact List.mem_cons_of_mem _ (a3L h)
theorem a5x {k : κ} {n : ν} : ∀ {l : List (κ × ν)} {i : Nat}, (l.map (·.1)).Nodup → (k, n) ∈ l → ∃ j, fdE k l i = some (j, n)
 | x :: l, i, hn, hm => by
  have hn := List.nodup_cons.1 (by simpa using hn : (x.1 :: l.map (·.1)).Nodup)
  unfold fdE
  rcases List.mem_cons.1 hm with rfl | hm
  · exact ⟨i, by simp⟩
  · have : k ≠ x.1 := fun q => hn.1 (by rw [← q]; exact List.mem_map.2 ⟨_, hm, rfl⟩)
    rw [if_neg this];exact a5x hn.2 hm
theorem a9k {k : κ} {n : ν} : ∀ {l : List (κ × ν)} {i : Nat} {p : Nat × ν}, (l.map (·.1)).Nodup → fdE k l i = some p → ∀ x, x ∈ b2I k n l ↔ (x ∈ l ∧ x.1 ≠ k) ∨ x = (k, n)
 | [], i, p, _, h => by simp [fdE] at h
 | y :: l, i, p, hn, h => by
  have hn := List.nodup_cons.1 (by simpa using hn : (y.1 :: l.map (·.1)).Nodup)
  intro x;unfold fdE at h;unfold b2I
  split
  · rename_i hk
    subst hk;simp only [List.mem_cons];constructor
    · rintro (rfl | hx)
      · exact .inr rfl
      · refine .inl ⟨.inr hx, fun q => hn.1 ?_⟩
        rw [← q]; exact List.mem_map.2 ⟨_, hx, rfl⟩
    · rintro (⟨rfl | hx, hne⟩ | rfl)
      · exact absurd rfl hne
      · exact .inr hx
      · exact .inl rfl
  · rename_i hk
    rw [if_neg hk] at h;simp only [List.mem_cons];rw [a9k hn.2 h x];constructor
    · rintro (rfl | ⟨hx, hne⟩ | rfl)
      · exact .inl ⟨.inl rfl, fun q => hk q.symm⟩
      · exact .inl ⟨.inr hx, hne⟩
      · exact .inr rfl
    · rintro (⟨rfl | hx, hne⟩ | rfl)
      · exact .inl rfl
      · exact .inr (.inl ⟨hx, hne⟩)
      · exact .inr (.inr rfl)
theorem a7B {k : κ} {n : ν} : ∀ (l : List (κ × ν)), (b2I k n l).map (·.1) = l.map (·.1)
 | [] => rfl
 | x :: l => by
  unfold b2I
  split
  · rename_i h; simp [h]
  · simp [a7B l]
theorem a3W {k : κ} : ∀ {l : List (κ × ν)}, (l.map (·.1)).Nodup → ∀ x, x ∈ a99 k l ↔ x ∈ l ∧ x.1 ≠ k
 | [], _ => by simp [a99]
 | y :: l, hn => by
  have hn := List.nodup_cons.1 (by simpa using hn : (y.1 :: l.map (·.1)).Nodup)
  intro x;unfold a99
  split
  · rename_i hk
    subst hk;simp only [List.mem_cons];constructor
    · intro hx
      refine ⟨.inr hx, fun q => hn.1 ?_⟩
      rw [← q]; exact List.mem_map.2 ⟨_, hx, rfl⟩
    · rintro ⟨rfl | hx, hne⟩
      · exact absurd rfl hne
      · exact hx
  · rename_i hk
    simp only [List.mem_cons];rw [a3W hn.2 x];constructor
    · rintro (rfl | ⟨hx, hne⟩)
      · exact ⟨.inl rfl, fun q => hk q.symm⟩
      · exact ⟨.inr hx, hne⟩
    · rintro ⟨rfl | hx, hne⟩
      · exact .inl rfl
      · exact .inr ⟨hx, hne⟩
theorem a9l {k : κ} : ∀ (l : List (κ × ν)), (a99 k l).Sublist l
 | [] => List.Sublist.refl _
 | x :: l => by
  unfold a99
  split
  · exact List.sublist_cons_self _ _
  · exact (a9l l).cons_cons _
def a5y (kV : κ → Value) (vV : ν → Value) (x : κ × ν) : Value × Value := (kV x.1, vV x.2)
def a29 (kV : κ → Value) (vV : ν → Value) (w : World) (b : Nat) (l : List (κ × ν)) : Prop :=
 ∃ es clock, w.heap[b]? = some (.map es clock) ∧ es.toList.map (fun x => (x.key, x.val)) = l.map (a5y kV vV) ∧ (l.map (·.1)).Nodup ∧ (es.toList.map (·.born)).Nodup ∧ ∀ x ∈ es.toList, x.born < clock
omit [DecidableEq κ] in
theorem a29.lt {w : World} {b : Nat} {l : List (κ × ν)} (h : a29 kV vV w b l) : b < w.heap.size := by
 obtain ⟨es, clock, hb, _⟩ := h;exact (Array.getElem?_eq_some_iff.1 hb).1
omit [DecidableEq κ] in
theorem a29.at_ {w w' : World} {b : Nat} {l : List (κ × ν)} (h : a29 kV vV w b l) (hb : w'.heap[b]? = w.heap[b]?) : a29 kV vV w' b l := by
 obtain ⟨es, clock, h1, h2⟩ := h;exact ⟨es, clock, hb.trans h1, h2⟩
omit [DecidableEq κ] in
theorem a29.ext {w w' : World} {b : Nat} {l : List (κ × ν)} (h : a29 kV vV w b l) (he : Ext w w') : a29 kV vV w' b l := h.at_ (he.block h.lt)
omit [DecidableEq κ] in
theorem a29.a1Q {w w' : World} {b c : Nat} {l : List (κ × ν)} (h : a29 kV vV w b l) (he : ExtM c w w') (hc : b ≠ c) : a29 kV vV w' b l := h.at_ (he.block b h.lt hc)
omit [DecidableEq κ] in
theorem a29.new (w : World) : a29 kV vV (w.alloc (.map #[] 0)) w.heap.size ([] : List (κ × ν)) :=
 ⟨#[], 0, heap_alloc_new w _, rfl, List.nodup_nil, List.nodup_nil, by simp⟩
omit [DecidableEq κ] in
theorem a29.nodup {w : World} {b : Nat} {l : List (κ × ν)} (h : a29 kV vV w b l) : (l.map (·.1)).Nodup := by
 obtain ⟨_, _, _, _, h, _⟩ := h;exact h
theorem a2r (K : KeyE P T kV) (k : κ) (w : World) : ∀ (es : List MapEntry) (l : List (κ × ν)) (i : Nat), es.map (fun x => (x.key, x.val)) = l.map (a5y kV vV) →
 (Instr.findAsking T (kV k) es i).run P w = .ok ((fdE k l i).map fun p => (p.1, vV p.2)) w
 | [], [], i, _ => rfl
 | [], _ :: _, _, h => by simp at h
 | _ :: _, [], _, h => by simp at h
 | x :: es, y :: l, i, h => by
  simp only [List.map_cons, List.cons.injEq, a5y, Prod.mk.injEq] at h;obtain ⟨⟨h1, h2⟩, h3⟩ := h;unfold Instr.findAsking fdE;simp only [Sem.run_bind, h1, K.eq, Result.andThen]
  by_cases hk : k = y.1
  · simp [hk, h2]
  · simp [hk, a2r K k w es l (i + 1) h3]
theorem a2G (K : KeyE P T kV) (k : κ) (w : World) (es : List MapEntry) (l : List (κ × ν)) (h : es.map (fun x => (x.key, x.val)) = l.map (a5y kV vV)) :
 (Instr.findKey T (kV k) es).run P w = .ok ((fdE k l 0).map fun p => (p.1, vV p.2)) w := by
 unfold Instr.findKey
 cases es with
 | nil =>
  cases l with
  | nil =>
   obtain ⟨d, hd, hn, _⟩ := K.now k k [] 0 .nilIface 0;simp only [Sem.run_bind, run_underlying hd, Result.andThen, hn];rfl
  | cons _ _ => simp at h
 | cons x es =>
 cases l with
 | nil => simp at h
 | cons y l =>
 have hx : x.key = kV y.1 := by simp [a5y] at h; exact h.1.1
 obtain ⟨xk, xv, xb⟩ := x;simp only at hx;subst hx;obtain ⟨d, hd, _, hn⟩ := K.now k y.1 es 0 xv xb;simp only [Sem.run_bind, run_underlying hd, Result.andThen, hn];exact a2r K k w _ _ 0 h
theorem a29.a7C (K : KeyE P T kV) (ht : P.underlying t = some (.map T e)) {w : World} {b : Nat} {l : List (κ × ν)} (h : a29 kV vV w b l) {z : ν} (hz : ∀ w, (zeroValue e).run P w = .ok (vV z) w) (k : κ) :
 (Instr.lookup t (.map (some b)) (kV k) false).run P w = .ok (vV ((ofE k l).getD z)) w := by
 obtain ⟨es, clock, hb, h1, _⟩ := h;unfold Instr.lookup;simp only [Sem.run_bind, run_underlying ht, Result.andThen, MapKept.run_getObj_map hb, Sem.run_pure, K.chk, a2G K k w es.toList l h1];unfold ofE
 cases fdE k l 0 with
 | none => simp [hz]
 | some p => simp
theorem a4M {k : κ} {n : ν} : ∀ (es : List MapEntry) (l : List (κ × ν)) (i j : Nat) (v : ν), es.map (fun x => (x.key, x.val)) = l.map (a5y kV vV) → fdE k l i = some (i + j, v) →
 (es.modify j fun x => { x with key := kV k, val := vV n }).map (fun x => (x.key, x.val)) = (b2I k n l).map (a5y kV vV) ∧ (es.modify j fun x => { x with key := kV k, val := vV n }).map (·.born) = es.map (·.born) ∧ (es[j]?).map (·.key) = some (kV k)
 | [], [], i, j, v, _, h => by simp [fdE] at h
 | [], _ :: _, _, _, _, h, _ => by simp at h
 | _ :: _, [], _, _, _, h, _ => by simp at h
 | a :: es, y :: l, i, j, v, h, hf => by
  simp only [List.map_cons, List.cons.injEq, a5y, Prod.mk.injEq] at h;obtain ⟨⟨h1, h2⟩, h3⟩ := h;unfold fdE at hf;unfold b2I
  by_cases hk : k = y.1
  · rw [if_pos hk] at hf ⊢
    injection hf with hf; injection hf with hf hv
    obtain rfl : j = 0 := by omega
    refine ⟨?_, ?_, ?_⟩
    · simp [List.modify_zero_cons, a5y]; exact h3
    · simp
    · simp [h1, hk]
  · rw [if_neg hk] at hf ⊢
    have hlt : ∀ (l : List (κ × ν)) (i : Nat) (p : Nat × ν), fdE k l i = some p → i ≤ p.1 := by
     intro l
     induction l with
     | nil => intro i p h; simp [fdE] at h
     | cons x l ih =>
      intro i p h;unfold fdE at h
      split at h
      · injection h with h; subst h; exact Nat.le_refl _
      · exact Nat.le_of_succ_le (ih _ _ h)
    have hj := hlt _ _ _ hf;simp only at hj;obtain ⟨j, rfl⟩ : ∃ j', j = j' + 1 := ⟨j - 1, by omega⟩
    obtain ⟨q1, q2, q3⟩ := a4M (n := n) es l (i + 1) j v h3 (by rw [hf]; congr 2; omega)
    refine ⟨?_, ?_, ?_⟩
    · simp [List.modify_succ_cons, a5y, h1, h2, q1]
    · simp [List.modify_succ_cons, q2]
    · simpa using q3
theorem a69 {k : κ} : ∀ (es : List MapEntry) (l : List (κ × ν)) (i j : Nat) (v : ν), es.map (fun x => (x.key, x.val)) = l.map (a5y kV vV) → fdE k l i = some (i + j, v) →
 (es.eraseIdx j).map (fun x => (x.key, x.val)) = (a99 k l).map (a5y kV vV) ∧ j < es.length
 | [], [], i, j, v, _, h => by simp [fdE] at h
 | [], _ :: _, _, _, _, h, _ => by simp at h
 | _ :: _, [], _, _, _, h, _ => by simp at h
 | a :: es, y :: l, i, j, v, h, hf => by
  simp only [List.map_cons, List.cons.injEq, a5y, Prod.mk.injEq] at h;obtain ⟨⟨h1, h2⟩, h3⟩ := h;unfold fdE at hf;unfold a99
  by_cases hk : k = y.1
  · rw [if_pos hk] at hf ⊢
    injection hf with hf; injection hf with hf hv
    obtain rfl : j = 0 := by omega
    exact ⟨by simpa using h3, by simp⟩
  · rw [if_neg hk] at hf ⊢
    have hlt : ∀ (l : List (κ × ν)) (i : Nat) (p : Nat × ν), fdE k l i = some p → i ≤ p.1 := by
     intro l
     induction l with
     | nil => intro i p h; simp [fdE] at h
     | cons x l ih =>
      intro i p h;unfold fdE at h
      split at h
      · injection h with h; subst h; exact Nat.le_refl _
      · exact Nat.le_of_succ_le (ih _ _ h)
    have hj := hlt _ _ _ hf;simp only at hj;obtain ⟨j, rfl⟩ : ∃ j', j = j' + 1 := ⟨j - 1, by omega⟩
    obtain ⟨q1, q2⟩ := a69 es l (i + 1) j v h3 (by rw [hf]; congr 2; omega)
    exact ⟨by simp [a5y, h1, h2, q1], by simpa using q2⟩
theorem a9m {k : κ} {l : List (κ × ν)} {p : Nat × ν} (h : fdE k l 0 = some p) : fdE k l 0 = some (0 + p.1, p.2) := by rw [h, Nat.zero_add]
theorem a29.a6Q (K : KeyE P T kV) (ht : P.underlying t = some (.map T e)) {w : World} {b : Nat} {l : List (κ × ν)} (h : a29 kV vV w b l) (k : κ) (n : ν) :
 ∃ w' l', (Instr.mapUpdate t (.map (some b)) (kV k) (vV n)).run P w = .ok () w' ∧ a29 kV vV w' b l' ∧ ExtM b w w' ∧ ∀ x, x ∈ l' ↔ (x ∈ l ∧ x.1 ≠ k) ∨ x = (k, n) := by
 obtain ⟨es, clock, hb, h1, h2, h3, h4⟩ := h;have hno : ∀ cs t m, (Obj.map es clock) ≠ .cells cs t m := by intro _ _ _ h; cases h
 have hrun : (Instr.findKey T (kV k) es.toList).run P w = _ := a2G K k w es.toList l h1
 cases hf : fdE k l 0 with
 | none =>
  rw [hf] at hrun;refine ⟨{ w with heap := w.heap.setIfInBounds b (.map (es.push ⟨kV k, vV n, clock⟩) (clock + 1)) }, l ++ [(k, n)], ?_, ⟨_, _, (MapKept.heap_set hb).1, ?_, ?_, ?_, ?_⟩, ExtM.set hb hno, ?_⟩
  · unfold Instr.mapUpdate
    simp only [Sem.run_bind, run_underlying ht, Result.andThen, MapKept.run_getObj_map hb, K.chk, hrun, Option.map_none, MapKept.run_setObj_map _ hb]
  · simp [h1, a5y]
  · rw [List.map_append, List.nodup_append]
    refine ⟨h2, by simp, fun a ha b hb => ?_⟩
    obtain ⟨x, hx, rfl⟩ := List.mem_map.1 ha;simp at hb;subst hb;exact a1v.1 hf x hx
  · simp only [Array.toList_push, List.map_append, List.map_cons, List.map_nil]
    rw [List.nodup_append];refine ⟨h3, by simp, fun a ha b hb => ?_⟩
    obtain ⟨x, hx, rfl⟩ := List.mem_map.1 ha;simp at hb;subst hb;exact Nat.ne_of_lt (h4 x hx)
  · intro x hx
    simp only [Array.toList_push, List.mem_append, List.mem_singleton] at hx
    rcases hx with hx | rfl
    · exact Nat.lt_succ_of_lt (h4 x hx)
    exact Nat.lt_succ_self _
  intro x;simp only [List.mem_append, List.mem_singleton];constructor
  · rintro (hx | rfl)
    · exact .inl ⟨hx, a1v.1 hf x hx⟩
    exact .inr rfl
  rintro (⟨hx, _⟩ | rfl)
  · exact .inl hx
  exact .inr rfl
 | some p =>
 rw [hf] at hrun;obtain ⟨q1, q2, q3⟩ := a4M (n := n) es.toList l 0 p.1 p.2 h1 (a9m hf);have q3 : (es[p.1]?).map (·.key) = some (kV k) := by simpa using q3
 refine ⟨{ w with heap := w.heap.setIfInBounds b (.map (es.modify p.1 fun x => { x with key := kV k, val := vV n }) clock) }, b2I k n l, ?_, ⟨_, _, (MapKept.heap_set hb).1, ?_, ?_, ?_, ?_⟩, ExtM.set hb hno, a9k h2 hf⟩
 · unfold Instr.mapUpdate
   have hst : (Instr.keyThatStays (kV k) (kV k)).run P w = .ok (kV k) w := by
    unfold Instr.keyThatStays;rw [if_pos (K.bits k)]; rfl
   simp only [Sem.run_bind, run_underlying ht, Result.andThen, MapKept.run_getObj_map hb, K.chk, hrun, Option.map_some, q3, Option.getD_some, hst, MapKept.run_setObj_map _ hb]
 · rw [Array.toList_modify]; exact q1
 · rw [a7B]; exact h2
 · rw [Array.toList_modify, q2]; exact h3
 intro x hx;rw [Array.toList_modify] at hx;have : x.born ∈ (es.toList.modify p.1 fun x => { x with key := kV k, val := vV n }).map (·.born) := List.mem_map.2 ⟨x, hx, rfl⟩
 rw [q2] at this;obtain ⟨y, hy, he⟩ := List.mem_map.1 this;rw [← he]; exact h4 y hy
theorem a29.a9n (K : KeyE P T kV) (ht : P.underlying t = some (.map T e)) {w : World} {b : Nat} {l : List (κ × ν)} (h : a29 kV vV w b l) (k : κ) :
 ∃ w', (∀ (T' ty : TypeId), (Builtin.delete_ #[t, T'] ty #[.map (some b), kV k]).run P w = .ok (.tuple #[]) w') ∧ a29 kV vV w' b (a99 k l) ∧ ExtM b w w' := by
 obtain ⟨es, clock, hb, h1, h2, h3, h4⟩ := h;have hno : ∀ cs t m, (Obj.map es clock) ≠ .cells cs t m := by intro _ _ _ h; cases h
 have hrun : (Instr.findKey T (kV k) es.toList).run P w = _ := a2G K k w es.toList l h1
 cases hf : fdE k l 0 with
 | none =>
  rw [hf] at hrun
  have hd : a99 k l = l := by
   have := a1v.1 hf;clear hf h1 h2 hrun
   induction l with
   | nil => rfl
   | cons x l ih =>
   unfold a99;rw [if_neg (fun q => this x (List.mem_cons_self ..) q.symm), ih fun y hy => this y (List.mem_cons_of_mem _ hy)]
  refine ⟨{ w with heap := w.heap.setIfInBounds b (.map es clock) }, fun T' ty => ?_, ⟨_, _, (MapKept.heap_set hb).1, by rw [hd]; exact h1, by rw [hd]; exact h2, h3, h4⟩, ExtM.set hb hno⟩
  unfold Builtin.delete_;simp [run_underlying ht, Result.andThen, MapKept.run_getObj_map hb, K.chk, hrun, MapKept.run_setObj_map _ hb]
 | some p =>
 rw [hf] at hrun;obtain ⟨q1, q2⟩ := a69 es.toList l 0 p.1 p.2 h1 (a9m hf);have q2 : p.1 < es.size := by simpa using q2
 have he : (es.eraseIdxIfInBounds p.1).toList = es.toList.eraseIdx p.1 := by
  unfold Array.eraseIdxIfInBounds;rw [dif_pos q2, Array.toList_eraseIdx]
 refine ⟨{ w with heap := w.heap.setIfInBounds b (.map (es.eraseIdxIfInBounds p.1) clock) }, fun T' ty => ?_, ⟨_, _, (MapKept.heap_set hb).1, by rw [he]; exact q1, ?_, ?_, ?_⟩, ExtM.set hb hno⟩
 · unfold Builtin.delete_
   simp [run_underlying ht, Result.andThen, MapKept.run_getObj_map hb, K.chk, hrun, MapKept.run_setObj_map _ hb]
 · exact h2.sublist ((a9l l).map _)
 · rw [he]; exact h3.sublist ((List.eraseIdx_sublist _ _).map _)
 intro x hx;rw [he] at hx;exact h4 x ((List.eraseIdx_sublist _ _).subset hx)
structure Iter (kV : κ → Value) (vV : ν → Value) (w : World) (r b : Nat) (es : Array MapEntry) (clock : Nat) (l : List (κ × ν)) (seen : Array Nat) : Prop where
 it : w.heap[r]? = some (.mapIter (some b) clock seen clock)
 map : w.heap[b]? = some (.map es clock)
 ent : es.toList.map (fun x => (x.key, x.val)) = l.map (a5y kV vV)
 born : (es.toList.map (·.born)).Nodup
 old : ∀ x ∈ es.toList, x.born < clock
def a8m (es : Array MapEntry) (l : List (κ × ν)) (seen : Array Nat) : List (κ × ν) := ((es.toList.zip l).filter fun p => seen.contains p.1.born).map (·.2)
omit [DecidableEq κ] in
theorem a6a (es : Array MapEntry) (l : List (κ × ν)) : a8m es l #[] = [] := by
 unfold a8m;rw [List.filter_eq_nil_iff.2 (by simp)]
 rfl
omit [DecidableEq κ] in
theorem a7D {es : Array MapEntry} {l : List (κ × ν)} {seen : Array Nat} (hl : es.toList.length = l.length) (h : (leftOf es seen).size = 0) : a8m es l seen = l := by
 unfold a8m;rw [List.filter_eq_self.2 fun p hp => all_seen es seen h p.1 (List.of_mem_zip hp).1]
 exact List.map_snd_zip (by omega)
omit [DecidableEq κ] in
theorem a3X (seen : Array Nat) (x : MapEntry) (y : κ × ν) (hs : seen.contains x.born = false) : ∀ (z : List (MapEntry × (κ × ν))), (z.map (·.1.born)).Nodup → (x, y) ∈ z →
 ((z.filter fun p => (seen.push x.born).contains p.1.born).map (·.2)).Perm (((z.filter fun p => seen.contains p.1.born).map (·.2)) ++ [y])
 | p :: z, hn, hm => by
  have hn := List.nodup_cons.1 (by simpa using hn : (p.1.born :: z.map (·.1.born)).Nodup)
  rcases List.mem_cons.1 hm with rfl | hm
  · have e : (z.filter fun p => (seen.push x.born).contains p.1.born) = z.filter fun p => seen.contains p.1.born := by
     refine List.filter_congr fun q hq => ?_
     rw [contains_push]
     have : (q.1.born == x.born) = false := by
      rw [beq_eq_false_iff_ne];intro he;exact hn.1 (by rw [← he]; exact List.mem_map.2 ⟨q, hq, rfl⟩)
     rw [this, Bool.or_false]
    rw [List.filter_cons, List.filter_cons, contains_push, hs, e];simp only [beq_self_eq_true, Bool.or_true, if_true, Bool.false_eq_true, if_false, List.map_cons];exact (List.perm_append_singleton _ _).symm
  · have hpx : (p.1.born == x.born) = false := by
     rw [beq_eq_false_iff_ne];intro he;exact hn.1 (by rw [he]; exact List.mem_map.2 ⟨_, hm, rfl⟩)
    rw [List.filter_cons, List.filter_cons, contains_push, hpx, Bool.or_false]
    split
    · simp only [List.map_cons, List.cons_append]
      exact (a3X seen x y hs z hn.2 hm).cons _
    · exact a3X seen x y hs z hn.2 hm
theorem run_setObj_at {w : World} {r : Nat} {m : Option Nat} {s : Nat} {x : Array Nat} {y : Nat} (o' : Obj) (hb : w.heap[r]? = some (.mapIter m s x y)) : (setObj r o').run P w = .ok () { w with heap := w.heap.setIfInBounds r o' } := by
 simp [setObj, Sem.run, hb]
omit [DecidableEq κ] in
theorem Iter.next {w : World} {r b : Nat} {es : Array MapEntry} {clock : Nat} {l : List (κ × ν)} {seen : Array Nat} (h : Iter kV vV w r b es clock l seen) (hne : r ≠ b) (ty : TypeId) :
 ((leftOf es seen).size = 0 ∧ (Instr.next (.pointer (some ⟨r, 0, none⟩)) false ty).run P w = .ok (.tuple #[.bool false]) w) ∨
 ∃ (x : κ × ν) (w' : World) (seen' : Array Nat), (Instr.next (.pointer (some ⟨r, 0, none⟩)) false ty).run P w = .ok (.tuple #[.bool true, kV x.1, vV x.2]) w' ∧ Iter kV vV w' r b es clock l seen' ∧ ExtM r w w' ∧
  (leftOf es seen').size < (leftOf es seen).size ∧ (a8m es l seen').Perm (a8m es l seen ++ [x]) ∧ (Instr.entry (.pointer (some ⟨r, 0, none⟩))).run P w' = .ok (.tuple #[kV x.1, vV x.2]) w' := by
 have htest := next_test_false seen es clock clock h.old (Nat.le_refl _);simp only [Instr.next, getObj, Sem.run_bind, Sem.run, h.it, h.map, Result.andThen, htest, Bool.false_eq_true, if_false];have hL : ∀ y, y ∈ (leftOf es seen).toList → y ∈ es.toList ∧ seen.contains y.born = false := fun y hy => mem_left hy
 have hshr := left_shrinks es seen;unfold leftOf at hL hshr ⊢;have hmem : ∀ y ∈ (Array.filter (fun e => !seen.contains e.born) es).toList, y.born < clock := fun y hy => h.old y (by simp at hy ⊢; exact hy.1)
 generalize hLd : Array.filter (fun e => !seen.contains e.born) es = L at *
 have e1 : L.filter (fun x => decide (x.born < clock)) = L := Array.filter_eq_self.2 (fun x hx => by simpa using hmem x (by simpa using hx))
 have e2 : L.filter (fun x => decide (x.born ≥ clock)) = #[] := by
  rw [Array.filter_eq_empty_iff];intro x hx;have := hmem x (by simpa using hx)
  simp;omega
 simp only [e1, e2, Array.append_empty]
 by_cases h0 : L.size = 0
 · left
   have : L = #[] := Array.eq_empty_of_size_eq_zero h0;subst this;refine ⟨rfl, ?_⟩;simp [choose, Sem.run, Question.forced]
 right
 have hne' : L.isEmpty = false := by simp [Array.isEmpty, h0]
 simp only [hne', Bool.false_eq_true, if_false, Array.empty_append, Array.size_map]
 have hch : ∃ (j : Nat) (w1 : World), j < L.size ∧ w1.heap = w.heap ∧ Ext w w1 ∧ (choose (Question.mapNext L.size)).run P w = .ok j w1 := by
  by_cases hf : L.size ≤ 1
  · exact ⟨0, w, by omega, rfl, Ext.refl _, by simp [choose, Sem.run, Question.forced, hf]⟩
  exact ⟨_, w.drew, Nat.mod_lt _ (by omega), rfl, (Ext.refl _).drew, by
   simp only [choose, Sem.run, Question.forced, decide_eq_true_eq, hf, if_false, Question.cut]
   rfl⟩
 obtain ⟨j, w1, hj, hheap, hext, hrun⟩ := hch;have hLj : L[j] ∈ L.toList := by simp
 obtain ⟨hes, hsn⟩ := hL _ hLj;obtain ⟨i, hi, hie⟩ := List.getElem_of_mem hes
 have hll : es.toList.length = l.length := by
  have := congrArg List.length h.ent;simpa using this
 have hil : i < l.length := by omega
 have hpair : (es.toList[i].key, es.toList[i].val) = a5y kV vV l[i] := by
  have h1 : (es.toList.map (fun x => (x.key, x.val)))[i]? = (l.map (a5y kV vV))[i]? := by rw [h.ent]
  rw [List.getElem?_map, List.getElem?_map, List.getElem?_eq_getElem hi, List.getElem?_eq_getElem hil] at h1;simpa using h1
 rw [hie] at hpair;unfold a5y at hpair;injection hpair with hk hv
 have hz : (L[j], l[i]) ∈ es.toList.zip l := by
  rw [← hie];have : (es.toList.zip l)[i]'(by rw [List.length_zip]; omega) = (es.toList[i], l[i]) := List.getElem_zip
  rw [← this];exact List.getElem_mem _
 have hzn : ((es.toList.zip l).map (·.1.born)).Nodup := by
  have : (es.toList.zip l).map (·.1.born) = es.toList.map (·.born) := by
   have h1 := congrArg (List.map (·.born)) (List.map_fst_zip (l₁ := es.toList) (l₂ := l) (by omega))
   rw [List.map_map] at h1;exact h1
  rw [this]; exact h.born
 have hit1 : w1.heap[r]? = some (.mapIter (some b) clock seen clock) := by rw [hheap]; exact h.it
 have hmp1 : w1.heap[b]? = some (.map es clock) := by rw [hheap]; exact h.map
 refine ⟨l[i], { w1 with heap := w1.heap.setIfInBounds r (.mapIter (some b) clock (seen.push L[j].born) clock) }, seen.push L[j].born, ?_, ⟨(MapKept.heap_set hit1).1, ((MapKept.heap_set hit1).2 b (Ne.symm hne)).trans hmp1, h.ent, h.born, h.old⟩,
  (ExtM.of hext).trans (ExtM.set hit1 (by intro _ _ _ q; cases q)), hshr _ hLj, ?_, ?_⟩
 · simp only [hrun, Array.getElem?_map, Array.getElem?_eq_getElem hj, Option.map_some, Sem.run_bind, run_setObj_at _ hit1, Result.andThen, hk, hv]
   rfl
 · exact a3X seen _ _ hsn _ hzn hz
 have hf : es.find? (·.born == L[j].born) = some L[j] := by rw [← Array.find?_toList]; exact find_born _ es.toList h.born hes
 simp only [Instr.entry, getObj, Sem.run_bind, Sem.run, (MapKept.heap_set hit1).1, ((MapKept.heap_set hit1).2 b (Ne.symm hne)).trans hmp1, Result.andThen, Array.back?_push, bne_self_eq_false, Bool.false_eq_true, if_false, hf, hk, hv];rfl
omit [DecidableEq κ] in
theorem Iter.ext {w w' : World} {r b : Nat} {es : Array MapEntry} {clock : Nat} {l : List (κ × ν)} {seen : Array Nat} (h : Iter kV vV w r b es clock l seen) (he : Ext w w') : Iter kV vV w' r b es clock l seen := by
 have h1 : r < w.heap.size := (Array.getElem?_eq_some_iff.1 h.it).1;have h2 : b < w.heap.size := (Array.getElem?_eq_some_iff.1 h.map).1;exact ⟨(he.block h1).trans h.it, (he.block h2).trans h.map, h.ent, h.born, h.old⟩
omit [DecidableEq κ] in
theorem a29.range (ht : P.underlying t = some (.map T e)) {w : World} {b : Nat} {l : List (κ × ν)} (h : a29 kV vV w b l) :
 ∃ es clock, (Instr.range t (.map (some b))).run P w = .ok (.pointer (some ⟨w.heap.size, 0, none⟩)) (w.alloc (.mapIter (some b) clock #[] clock)) ∧
  Iter kV vV (w.alloc (.mapIter (some b) clock #[] clock)) w.heap.size b es clock l #[] ∧ es.toList.length = l.length := by
 have hlt := h.lt;obtain ⟨es, clock, hb, h1, h2, h3, h4⟩ := h;exact ⟨es, clock, run_range_map w t T e b es clock ht hb, ⟨heap_alloc_new w _, (heap_alloc_old w _ hlt).trans hb, h1, h3, h4⟩, by have := congrArg List.length h1; simpa using this⟩
end
end Go.Ox
namespace Go.Ox
open Go.RowKit
structure ExtQ (Q : Nat → Prop) (w w' : World) : Prop where
 os : w'.os = w.os
 tape : w'.tape = w.tape
 output : w'.output = w.output
 size : w.heap.size ≤ w'.heap.size
 block : ∀ k, k < w.heap.size → ¬ Q k → w'.heap[k]? = w.heap[k]?
section
variable {Q Q' : Nat → Prop} {w w' a b c w0 : World}
theorem ExtQ.refl (Q : Nat → Prop) (w : World) : ExtQ Q w w := ⟨rfl, rfl, rfl, Nat.le_refl _, fun _ _ _ => rfl⟩
theorem ExtQ.trans (h : ExtQ Q a b) (k : ExtQ Q b c) : ExtQ Q a c :=
 ⟨k.os.trans h.os, k.tape.trans h.tape, k.output.trans h.output, Nat.le_trans h.size k.size, fun x hx hn => (k.block x (Nat.lt_of_lt_of_le hx h.size) hn).trans (h.block x hx hn)⟩
theorem ExtQ.of (h : Ext a b) : ExtQ Q a b := ⟨h.os, h.tape, h.output, h.size, fun _ hk _ => h.block hk⟩
theorem ExtQ.mono (h : ExtQ Q a b) (hq : ∀ k, Q k → Q' k) : ExtQ Q' a b := ⟨h.os, h.tape, h.output, h.size, fun k hk hn => h.block k hk fun hq' => hn (hq k hq')⟩
theorem ExtQ.a6b (h : ExtQ Q a b) (hq : ∀ k, k < a.heap.size → Q k → Q' k) : ExtQ Q' a b := ⟨h.os, h.tape, h.output, h.size, fun k hk hn => h.block k hk fun hq' => hn (hq k hk hq')⟩
theorem Ext.a4N (h : Ext w0 a) (k : ExtQ Q a b) (hq : ∀ k, Q k → w0.heap.size ≤ k) : Ext w0 b :=
 Below.trans h ⟨k.os, k.tape, k.output, k.size, fun x hx => k.block x (Nat.lt_of_lt_of_le hx h.size) fun q => by have := hq x q; omega⟩
theorem ExtQ.grown {row : Option Nat} (hg : a.grownBy b row) (hq : ∀ k, row = some k → Q k) : ExtQ Q a b :=
 ⟨hg.os, hg.tape, hg.output, hg.size, fun k hk hn => hg.block k hk fun e => hn (hq k e.symm)⟩
theorem ExtQ.a5Y {g : Nat} (h : ExtG g a b) (hq : Q g) : ExtQ Q a b := ExtQ.grown h.grown fun k hk => by injection hk with hk; rw [← hk]; exact hq
theorem ExtQ.setCell (h : ExtQ Q a b) {p : Addr} (hq : Q p.block) (u : Value) : ExtQ Q a (b.setCell p u) :=
 h.trans ⟨rfl, rfl, rfl, by simp [World.setCell], fun k _ hn => Below.heap_setCell b p u k fun e => hn (by rw [e]; exact hq)⟩
theorem ExtQ.setCells (h : ExtQ Q a b) {g : Nat} (hq : Q g) : ∀ (vs : List Value) (o : Nat), ExtQ Q a (b.setCells g o vs) := by
 intro vs
 induction vs generalizing b with
 | nil => exact fun o => h
 | cons v vs ih => exact fun o => ih (h.setCell (p := ⟨g, o, none⟩) hq v) (o + 1)
def OffQ (Q : Nat → Prop) (v : Value) (n : Nat) : Prop := n ≠ 0 → ∀ A m c ad, v = .slice A m c → A = some ad → ¬ Q ad.block
theorem Rd.a0Q {size n : Nat} {v : Value} {xs : List Value} (h : Rd w size v n xs) (he : ExtQ Q w w') (hq : OffQ Q v n) : Rd w' size v n xs := by
 obtain ⟨A, c, rfl, h⟩ := h;refine ⟨A, c, rfl, h.len, h.nc, h.cm, h.nil, fun ad hA j x hx => ?_⟩
 obtain ⟨h1, h2⟩ := h.at_ ad hA j x hx;refine ⟨h1, ?_⟩
 have hn : n ≠ 0 := by
  intro h0;have := h.len;rw [h0, Nat.zero_mul] at this;rw [List.eq_nil_of_length_eq_zero this] at hx
  cases hx
 exact (World.cell?_of_block (a := ⟨ad.block, ad.off + j, none⟩) (he.block ad.block (World.block_lt_of_cell? w ⟨ad.block, ad.off + j, none⟩ h2) (hq hn A n c ad rfl hA))).trans h2
theorem a0a {base E size n : Nat} {v : Value} {xs : List Value} (h : w.ownsRow base E size v n xs) (he : ExtQ Q w w') (hq : ∀ k, v.ownBlock = some k → ¬ Q k) : w'.ownsRow base E size v n xs := by
 obtain ⟨h1, h2⟩ := h;refine ⟨h1, ?_⟩
 rcases h2 with h2 | ⟨g, cap, cur, hv, hb, hh, r⟩
 · exact .inl h2
 refine .inr ⟨g, cap, cur, hv, hb, ?_, r⟩;exact (he.block g (Array.getElem?_eq_some_iff.1 hh).1 (hq g (by rw [hv]; rfl))).trans hh
theorem Blk.a0Q {t : TypeId} {cs : Array Value} {k : Nat} (h : Blk w k t cs) (he : ExtQ Q w w') (hk : ¬ Q k) : Blk w' k t cs := (he.block k h.lt hk).trans h
theorem b3g {base E size n : Nat} {v : Value} {xs : List Value} (h : w.ownsRow base E size v n xs) (hq : ∀ k, v.ownBlock = some k → ¬ Q k) : OffQ Q v n := by
 intro hn A m c ad hv hA
 rcases h.2 with ⟨rfl, h0⟩ | ⟨g, cap, cur, hv2, _⟩
 · exact absurd h0 hn
 rw [hv2] at hv;injection hv with e1
 rw [hA] at e1;injection e1 with e1
 rw [← e1];exact hq g (by rw [hv2]; rfl)
end
def Has (cur : Array Value) (o : Nat) (cs : List Value) : Prop := ∀ j u, cs[j]? = some u → cur[o + j]? = some u
def a9o : Array Value → Nat → List Value → Array Value
 | cur, _, [] => cur
 | cur, o, u :: cs => a9o (cur.setIfInBounds o u) (o + 1) cs
theorem a2H : ∀ (cs : List Value) (cur : Array Value) (o : Nat), (a9o cur o cs).size = cur.size
 | [], _, _ => rfl
 | u :: cs, cur, o => by unfold a9o; rw [a2H cs]; simp
theorem a5z : ∀ (cs : List Value) (cur : Array Value) (o j : Nat), (j < o ∨ o + cs.length ≤ j) → (a9o cur o cs)[j]? = cur[j]?
 | [], _, _, _, _ => rfl
 | u :: cs, cur, o, j, h => by
  unfold a9o;rw [List.length_cons] at h;rw [a5z cs _ _ j (by omega), Array.getElem?_setIfInBounds_ne (by omega)]
theorem a9p : ∀ (cs : List Value) (cur : Array Value) (o : Nat), o + cs.length ≤ cur.size → Has (a9o cur o cs) o cs
 | [], _, _, _ => fun j u h => by simp at h
 | v :: cs, cur, o, h => by
  rw [List.length_cons] at h;intro j u hj;unfold a9o
  cases j with
  | zero =>
   rw [a5z cs _ _ _ (by omega)]
   simp at hj;subst hj;simp [Array.getElem?_setIfInBounds];omega
  | succ j =>
   have := a9p cs (cur.setIfInBounds o v) (o + 1) (by simpa using (by omega : o + 1 + cs.length ≤ cur.size)) j u (by simpa using hj)
   rw [show o + (j + 1) = o + 1 + j by omega]; exact this
theorem Has.o {cur : Array Value} {o q : Nat} {cs ds : List Value} (h : Has cur o cs) (hd : o + cs.length ≤ q ∨ q + ds.length ≤ o) : Has (a9o cur q ds) o cs := fun j u hj => by
 have hlt : j < cs.length := (List.getElem?_eq_some_iff.1 hj).1;rw [a5z ds cur q (o + j) (by omega)]; exact h j u hj
theorem Has.app {cur : Array Value} {o q : Nat} {cs ds : List Value} (h : Has cur o cs) (k : Has cur q ds) (hq : q = o + cs.length) : Has cur o (cs ++ ds) := fun j u hj => by
 subst hq
 by_cases hlt : j < cs.length
 · rw [List.getElem?_append_left hlt] at hj; exact h j u hj
 · rw [List.getElem?_append_right (by omega)] at hj
   have := k _ u hj;rwa [show o + cs.length + (j - cs.length) = o + j by omega] at this
theorem Has.drop {cur : Array Value} {o n q : Nat} {cs : List Value} (h : Has cur o cs) (hq : q = o + n) : Has cur q (cs.drop n) := fun j u hj => by
 subst hq;rw [List.getElem?_drop] at hj;have := h _ u hj;rwa [← Nat.add_assoc] at this
theorem Has.take_ {cur : Array Value} {n : Nat} {cs : List Value} (h : Has cur 0 cs) (hn : cs.length = n) (_hs : n ≤ cur.size) : cur.toList.take n = cs := by
 apply List.ext_getElem?;intro j;rw [List.getElem?_take]
 split
 · rename_i hj
   have := h j _ (List.getElem?_eq_getElem (by omega))
   rw [Nat.zero_add] at this;rw [Array.getElem?_toList, this, List.getElem?_eq_getElem]
 rename_i hj
 rw [List.getElem?_eq_none (by omega)]
theorem Has.b3h {cur : Array Value} {n : Nat} {cs : List Value} (h : cur.toList.take n = cs) : Has cur 0 cs := fun j u hj => by
 rw [← h, List.getElem?_take] at hj
 split at hj
 · rw [Nat.zero_add]; simpa using hj
 · cases hj
theorem Blk.setCells {w : World} {b : Nat} {E : TypeId} : ∀ (cs : List Value) (o : Nat) {w : World} {cur : Array Value}, Blk w b E cur → Blk (w.setCells b o cs) b E (a9o cur o cs)
 | [], _, _, _, h => h
 | u :: cs, o, _, _, h => Blk.setCells (w := w) cs (o + 1) (h.a0U o u)
theorem Blk.get {w : World} {b : Nat} {E : TypeId} {cur : Array Value} {o : Nat} {cs : List Value} (h : Blk w b E cur) (k : Has cur o cs) {j : Nat} {u : Value} (hj : cs[j]? = some u) : w.cell? ⟨b, o + j, none⟩ = some u := (h.cell _).trans (k j u hj)
section
variable {P : Program} {t e : TypeId} {z : Value} {size bytes : Nat}
theorem a4O (el : Elem P t e z size bytes) (h1 : ∀ u ∈ z.cells, u.oneCell' = true) {w : World} {b o n c : Nat} {E : TypeId} {cur : Array Value} (h : Blk w b E cur) (hn : 0 < n) (hs : o + n * size ≤ cur.size) :
 ∃ zs : List Value, zs.length = n * size ∧ ∀ ty, (Builtin.clear_ #[t] ty #[.slice (some ⟨b, o, none⟩) n c]).run P w = .ok (.tuple #[]) (w.setCells b o zs) := by
 obtain ⟨i, hi, hz, hsz, hb⟩ := el.info
 have hlen : (Builtin.zeroCells z.cells n).toList.length = n * size := by
  rw [Array.length_toList, size_zeroCells, el.zs, Nat.mul_comm]
 have hone : ∀ u ∈ (Builtin.zeroCells z.cells n).toList, u.oneCell' = true := by
  intro u hu;simp [Builtin.zeroCells] at hu;obtain ⟨j, hj, rfl⟩ := hu;have hz0 : 0 < z.cells.size := by rw [el.zs]; exact el.pos
  rw [getElem!_pos z.cells _ (Nat.mod_lt _ hz0)];exact h1 _ (Array.getElem_mem _)
 refine ⟨_, hlen, fun ty => ?_⟩
 have hst := run_storeCells_cells (P := P) b o (Builtin.zeroCells z.cells n).toList 0 w (fun j hj => by
  rw [hlen] at hj
  rw [Nat.add_zero, h.cell, Array.getElem?_eq_getElem (by omega)]; rfl) (fun j _ => h.frozen _) hone
 simp only [Nat.add_zero] at hst;obtain ⟨m, rfl⟩ : ∃ m, n = m + 1 := ⟨n - 1, by omega⟩
 have hv : (zeroValue e).run P w = .ok z w := by simp [zeroValue, typeInfo, hi, hz]
 simp [Builtin.clear_, run_underlying el.under, hv, hst]
end
section
variable {P : Program} {t e : TypeId} {z : Value} {size bytes : Nat}
theorem a3Y (el : Elem P t e z size bytes) {b n c k : Nat} (hk : k < n) (hc : n ≤ c) (w : World) :
 (Instr.slice t (.slice (some ⟨b, 0, none⟩) n c) (some (.int .i64 (k : Int))) none none).run P w = .ok (.slice (some ⟨b, k * size, none⟩) (n - k) (c - k)) w := by
 obtain ⟨i, hi, hz, hs, hb⟩ := el.info;have g2 : ((k : Int) ≤ (n : Int)) := by omega
 have hne : ¬ c = k := by omega
 have ha : (⟨b, 0, none⟩ : Addr).add (k * size) = ⟨b, k * size, none⟩ := by unfold Addr.add; split <;> simp_all
 simp [Instr.slice, run_underlying el.under, Instr.sliceBounds, run_sliceBound w .i64 (k : Int) n .sliceB (by omega) g2, sizeOf, typeInfo, hi, hs, hne, ha]
theorem a6c (el : Elem P t e z size bytes) {b n c k : Nat} (hk : k ≤ c) (w : World) :
 (Instr.slice t (.slice (some ⟨b, 0, none⟩) n c) none (some (.int .i64 (k : Int))) none).run P w = .ok (.slice (some ⟨b, 0, none⟩) k c) w := by
 obtain ⟨i, hi, hz, hs, hb⟩ := el.info;have : ((k : Int) ≤ (c : Int)) := by omega
 simp [Instr.slice, run_underlying el.under, Instr.sliceBounds, run_sliceBound w .i64 (k : Int) c .sliceAcap (by omega) this, sizeOf, typeInfo, hi]
 intro _; rfl
theorem b3i {α : Type} [C : Enc α] {l : List α} {j : Nat} (h : j < l.length) {i : Nat} {u : Value} (hu : (C.enc l[j])[i]? = some u) : (eV (l.drop j))[i]? = some u := by
 have hi : i < (C.enc l[j]).length := (List.getElem?_eq_some_iff.1 hu).1;rw [List.drop_eq_getElem_cons h, a2w, List.getElem?_append_left hi]; exact hu
theorem OE.open_ {α : Type} [C : Enc α] {E base : Nat} {w : World} {v : Value} {l : List α} (h : OE E base w v l) : (v = .slice none 0 0 ∧ l = []) ∨ ∃ b cap cur, v = .slice (some ⟨b, 0, none⟩) l.length cap ∧ base ≤ b ∧ Blk w b E cur ∧ l.length ≤ cap ∧ cap ≤ maxLen ∧ cur.size = cap * C.k ∧ Has cur 0 (eV l) := by
 obtain ⟨h1, h2⟩ := h
 rcases h2 with ⟨rfl, h0⟩ | ⟨b, cap, cur, rfl, hb, hh, hnc, hcm, hcs, hx⟩
 · exact .inl ⟨rfl, List.eq_nil_of_length_eq_zero h0⟩
 exact .inr ⟨b, cap, cur, rfl, hb, hh, hnc, hcm, hcs, Has.b3h hx⟩
theorem OE.shut {α : Type} [C : Enc α] {E base : Nat} {w : World} {l : List α} {b n cap : Nat} {cur : Array Value} (hn : l.length = n) (hb : base ≤ b) (hh : Blk w b E cur) (hnc : n ≤ cap) (hcm : cap ≤ maxLen) (hcs : cur.size = cap * C.k) (hx : Has cur 0 (eV l)) :
 OE E base w (.slice (some ⟨b, 0, none⟩) n cap) l := by
 subst hn;exact ⟨a3V l, .inr ⟨b, cap, cur, rfl, hb, hh, hnc, hcm, hcs, hx.take_ (a3V l) (by rw [hcs]; exact Nat.mul_le_mul_right _ hnc)⟩⟩
end
section
variable {α σ : Type} {del : σ → α → Bool × σ}
def stS (del : σ → α → Bool × σ) (s : σ) (l : List α) : σ := l.foldl (fun s x => (del s x).2) s
def a1R (del : σ → α → Bool × σ) : σ → List α → List α
 | _, [] => []
 | s, x :: l => if (del s x).1 = true then a1R del (del s x).2 l else x :: a1R del (del s x).2 l
theorem b1s (s : σ) (l : List α) (x : α) : stS del s (l ++ [x]) = (del (stS del s l) x).2 := by unfold stS; rw [List.foldl_append]; rfl
theorem a3c : ∀ (l : List α) (s : σ) (x : α), a1R del s (l ++ [x]) = a1R del s l ++ (if (del (stS del s l) x).1 = true then [] else [x])
 | [], s, x => by
  unfold stS;simp only [List.nil_append, a1R, List.foldl_nil]
  by_cases h : (del s x).1 = true <;> simp [h]
 | y :: l, s, x => by
  rw [List.cons_append];unfold a1R;have := a3c l (del s y).2 x
  split
  · rw [this]; rfl
  · rw [this]; rfl
theorem a7E {l : List α} {k : Nat} (h : k < l.length) (s : σ) : stS del s (l.take (k + 1)) = (del (stS del s (l.take k)) l[k]).2 := by rw [List.take_succ_eq_append_getElem h, b1s]
theorem a3x {l : List α} {k : Nat} (h : k < l.length) (s : σ) (hd : (del (stS del s (l.take k)) l[k]).1 = true) : a1R del s (l.take (k + 1)) = a1R del s (l.take k) := by
 rw [List.take_succ_eq_append_getElem h, a3c, if_pos hd, List.append_nil]
theorem a3y {l : List α} {k : Nat} (h : k < l.length) (s : σ) (hd : (del (stS del s (l.take k)) l[k]).1 = false) : a1R del s (l.take (k + 1)) = a1R del s (l.take k) ++ [l[k]] := by
 rw [List.take_succ_eq_append_getElem h, a3c, if_neg (by rw [hd]; simp)]
end
end Go.Ox
namespace Go.Ox
open Go.RowKit
section
variable {β : Type} {R : World → Value → β → Prop} {w w' : World} {v : Value} {ls : List β}
end
section
variable {α : Type} [C : Enc α] {T E base : Nat} {w w' : World} {v v' : Value} {ls : List (List α)} {us : List Value}
theorem OE.lt {u : Value} {l : List α} (h : OE E base w u l) {g : Nat} (hg : u.ownBlock = some g) : base ≤ g ∧ g < w.heap.size := h.own.lt g hg
end
end Go.Ox
namespace Go.Ox
open Go.RowKit
section
variable {P : Program} {T t e : TypeId} {κ ν : Type} [DecidableEq κ] {kV : κ → Value} {vV : ν → Value} {z : ν}
end
end Go.Ox
namespace Go.Ox
open Go.RowKit
instance encPair : Enc (Int × Int) where
 k := 2
 enc x := [.int .i64 x.1, .int .i64 x.2]
 len _ := rfl
 pos := by omega
 one _ := by intro u hu; simp at hu; rcases hu with rfl | rfl <;> rfl
theorem RP.re {w : World} {v : Value} {l : List (Int × Int)} (h : RP w v l) : RE w v l := h
theorem RE.rp {w : World} {v : Value} {l : List (Int × Int)} (h : RE w v l) : RP w v l := h
end Go.Ox
