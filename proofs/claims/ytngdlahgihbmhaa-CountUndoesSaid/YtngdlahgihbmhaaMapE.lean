/-
  Maps whose keys are compared by their type's own equality (structs), held as lists of keys and values; the worlds in which one such block changes; a range over such a map.
-/
import Derived.Test.YtngdlahgihbmhaaMem2
import Derived.Test.YtngdlahgihbmhaaEff
import Derived.MapKept
import Derived.Laws.IdiomRangeMap
namespace Go.Ox
open Go.RowKit

/-- only the block b changed, and no cell did -/
structure ExtM (b : Nat) (w w' : World) : Prop where
  os : w'.os = w.os
  tape : w'.tape = w.tape
  output : w'.output = w.output
  size : w.heap.size ≤ w'.heap.size
  block : ∀ k, k < w.heap.size → k ≠ b → w'.heap[k]? = w.heap[k]?
  cells : ∀ a v, w.cell? a = some v → w'.cell? a = some v
section
variable {b : Nat} {w w' a c d : World}
theorem ExtM.refl (b : Nat) (w : World) : ExtM b w w := ⟨rfl, rfl, rfl, Nat.le_refl _, fun _ _ _ => rfl, fun _ _ h => h⟩
theorem ExtM.trans (h : ExtM b a c) (k : ExtM b c d) : ExtM b a d :=
  ⟨k.os.trans h.os, k.tape.trans h.tape, k.output.trans h.output, Nat.le_trans h.size k.size, fun x hx hn => (k.block x (Nat.lt_of_lt_of_le hx h.size) hn).trans (h.block x hx hn), fun x v hv => k.cells x v (h.cells x v hv)⟩
theorem ExtM.of (h : Ext a c) : ExtM b a c := ⟨h.os, h.tape, h.output, h.size, fun _ hk _ => h.block hk, fun _ _ hv => h.cell hv⟩
theorem Ext.andM {w0 : World} (h : Ext w0 a) (k : ExtM b a c) (hb : w0.heap.size ≤ b) : Ext w0 c :=
  Below.trans h ⟨k.os, k.tape, k.output, k.size, fun x hx => k.block x (Nat.lt_of_lt_of_le hx h.size) (by omega)⟩
theorem RdA.extM {size n k : Nat} {A : Option Addr} {xs : List Value} (h : RdA w size A n k xs) (he : ExtM b w w') : RdA w' size A n k xs :=
  ⟨h.len, h.nc, h.cm, h.nil, fun ad ha j u hu => ⟨(h.at_ ad ha j u hu).1, he.cells _ _ (h.at_ ad ha j u hu).2⟩⟩
theorem Rd.extM {size n : Nat} {v : Value} {xs : List Value} (h : Rd w size v n xs) (he : ExtM b w w') : Rd w' size v n xs := by
  obtain ⟨A, c, rfl, h⟩ := h
  exact ⟨A, c, rfl, h.extM he⟩
theorem Blk.extM {t : TypeId} {cs : Array Value} {k : Nat} (h : Blk w k t cs) (he : ExtM b w w') (hk : k ≠ b) : Blk w' k t cs := (he.block k h.lt hk).trans h
/-- a block that holds no cells is laid anew -/
theorem ExtM.set {o o' : Obj} (hb : w.heap[b]? = some o) (ho : ∀ cs t m, o ≠ .cells cs t m) : ExtM b w { w with heap := w.heap.setIfInBounds b o' } := by
  refine ⟨rfl, rfl, rfl, by simp, fun k _ hk => by simp [Ne.symm hk], fun x v hv => ?_⟩
  by_cases hx : x.block = b
  · exfalso
    unfold World.cell? at hv
    rw [hx, hb] at hv
    cases o <;> simp at hv
    exact ho _ _ _ rfl
  · rw [← hv]
    unfold World.cell?
    simp [Ne.symm hx]
end

/-- a key's type: how its values are told apart -/
structure KeyE (P : Program) (T : TypeId) {κ : Type} [DecidableEq κ] (kV : κ → Value) : Prop where
  eq : ∀ x y w, (Op.equal T (kV x) (kV y)).run P w = .ok (decide (x = y)) w
  chk : ∀ e x w, (Instr.checkKey e 10000 T (kV x)).run P w = .ok () w
  now : ∀ x y es i (b : Value) (n : Nat), ∃ d, P.underlying T = some d ∧ Instr.findNow d (kV x) [] i = some none ∧ Instr.findNow d (kV x) (⟨kV y, b, n⟩ :: es) i = none
  bits : ∀ x, Instr.sameBits 10000 (kV x) (kV x) = true

section
variable {P : Program} {T t e : TypeId} {κ ν : Type} [DecidableEq κ] {kV : κ → Value} {vV : ν → Value}

def fdE (k : κ) : List (κ × ν) → Nat → Option (Nat × ν)
  | [], _ => none
  | x :: l, i => if k = x.1 then some (i, x.2) else fdE k l (i + 1)
def updE (k : κ) (n : ν) : List (κ × ν) → List (κ × ν)
  | [] => []
  | x :: l => if k = x.1 then (k, n) :: l else x :: updE k n l
def delE (k : κ) : List (κ × ν) → List (κ × ν)
  | [] => []
  | x :: l => if k = x.1 then l else x :: delE k l
def ofE (k : κ) (l : List (κ × ν)) : Option ν := (fdE k l 0).map (·.2)
theorem fdE_none {k : κ} : ∀ {l : List (κ × ν)} {i : Nat}, fdE k l i = none ↔ ∀ x ∈ l, x.1 ≠ k
  | [], i => by simp [fdE]
  | x :: l, i => by
    unfold fdE
    split
    · rename_i h; simp; intro h2; exact absurd h.symm h2
    · rename_i h
      rw [fdE_none]
      simp only [List.mem_cons, forall_eq_or_imp]
      exact ⟨fun q => ⟨fun h2 => h h2.symm, q⟩, fun q => q.2⟩
theorem fdE_some {k : κ} : ∀ {l : List (κ × ν)} {i j : Nat} {n : ν}, fdE k l i = some (j, n) → (k, n) ∈ l
  | [], i, j, n, h => by simp [fdE] at h
  | x :: l, i, j, n, h => by
    unfold fdE at h
    split at h
    · rename_i hk
      injection h with h; injection h with h1 h2
      subst hk h2
      simp
    · exact List.mem_cons_of_mem _ (fdE_some h)
theorem fdE_mem {k : κ} {n : ν} : ∀ {l : List (κ × ν)} {i : Nat}, (l.map (·.1)).Nodup → (k, n) ∈ l → ∃ j, fdE k l i = some (j, n)
  | x :: l, i, hn, hm => by
    have hn := List.nodup_cons.1 (by simpa using hn : (x.1 :: l.map (·.1)).Nodup)
    unfold fdE
    rcases List.mem_cons.1 hm with rfl | hm
    · exact ⟨i, by simp⟩
    · have : k ≠ x.1 := fun q => hn.1 (by rw [← q]; exact List.mem_map.2 ⟨_, hm, rfl⟩)
      rw [if_neg this]
      exact fdE_mem hn.2 hm
theorem upd_mem {k : κ} {n : ν} : ∀ {l : List (κ × ν)} {i : Nat} {p : Nat × ν}, (l.map (·.1)).Nodup → fdE k l i = some p → ∀ x, x ∈ updE k n l ↔ (x ∈ l ∧ x.1 ≠ k) ∨ x = (k, n)
  | [], i, p, _, h => by simp [fdE] at h
  | y :: l, i, p, hn, h => by
    have hn := List.nodup_cons.1 (by simpa using hn : (y.1 :: l.map (·.1)).Nodup)
    intro x
    unfold fdE at h
    unfold updE
    split
    · rename_i hk
      subst hk
      simp only [List.mem_cons]
      constructor
      · rintro (rfl | hx)
        · exact .inr rfl
        · refine .inl ⟨.inr hx, fun q => hn.1 ?_⟩
          rw [← q]; exact List.mem_map.2 ⟨_, hx, rfl⟩
      · rintro (⟨rfl | hx, hne⟩ | rfl)
        · exact absurd rfl hne
        · exact .inr hx
        · exact .inl rfl
    · rename_i hk
      rw [if_neg hk] at h
      simp only [List.mem_cons]
      rw [upd_mem hn.2 h x]
      constructor
      · rintro (rfl | ⟨hx, hne⟩ | rfl)
        · exact .inl ⟨.inl rfl, fun q => hk q.symm⟩
        · exact .inl ⟨.inr hx, hne⟩
        · exact .inr rfl
      · rintro (⟨rfl | hx, hne⟩ | rfl)
        · exact .inl rfl
        · exact .inr (.inl ⟨hx, hne⟩)
        · exact .inr (.inr rfl)
theorem upd_keys {k : κ} {n : ν} : ∀ (l : List (κ × ν)), (updE k n l).map (·.1) = l.map (·.1)
  | [] => rfl
  | x :: l => by
    unfold updE
    split
    · rename_i h; simp [h]
    · simp [upd_keys l]
theorem del_mem {k : κ} : ∀ {l : List (κ × ν)}, (l.map (·.1)).Nodup → ∀ x, x ∈ delE k l ↔ x ∈ l ∧ x.1 ≠ k
  | [], _ => by simp [delE]
  | y :: l, hn => by
    have hn := List.nodup_cons.1 (by simpa using hn : (y.1 :: l.map (·.1)).Nodup)
    intro x
    unfold delE
    split
    · rename_i hk
      subst hk
      simp only [List.mem_cons]
      constructor
      · intro hx
        refine ⟨.inr hx, fun q => hn.1 ?_⟩
        rw [← q]; exact List.mem_map.2 ⟨_, hx, rfl⟩
      · rintro ⟨rfl | hx, hne⟩
        · exact absurd rfl hne
        · exact hx
    · rename_i hk
      simp only [List.mem_cons]
      rw [del_mem hn.2 x]
      constructor
      · rintro (rfl | ⟨hx, hne⟩)
        · exact ⟨.inl rfl, fun q => hk q.symm⟩
        · exact ⟨.inr hx, hne⟩
      · rintro ⟨rfl | hx, hne⟩
        · exact .inl rfl
        · exact .inr ⟨hx, hne⟩
theorem del_sub {k : κ} : ∀ (l : List (κ × ν)), (delE k l).Sublist l
  | [] => List.Sublist.refl _
  | x :: l => by
    unfold delE
    split
    · exact List.sublist_cons_self _ _
    · exact (del_sub l).cons_cons _

def entE (kV : κ → Value) (vV : ν → Value) (x : κ × ν) : Value × Value := (kV x.1, vV x.2)
/-- the block b holds the map l -/
def MapE (kV : κ → Value) (vV : ν → Value) (w : World) (b : Nat) (l : List (κ × ν)) : Prop :=
  ∃ es clock, w.heap[b]? = some (.map es clock) ∧ es.toList.map (fun x => (x.key, x.val)) = l.map (entE kV vV) ∧ (l.map (·.1)).Nodup ∧ (es.toList.map (·.born)).Nodup ∧ ∀ x ∈ es.toList, x.born < clock
omit [DecidableEq κ] in
theorem MapE.lt {w : World} {b : Nat} {l : List (κ × ν)} (h : MapE kV vV w b l) : b < w.heap.size := by
  obtain ⟨es, clock, hb, _⟩ := h
  exact (Array.getElem?_eq_some_iff.1 hb).1
omit [DecidableEq κ] in
theorem MapE.at_ {w w' : World} {b : Nat} {l : List (κ × ν)} (h : MapE kV vV w b l) (hb : w'.heap[b]? = w.heap[b]?) : MapE kV vV w' b l := by
  obtain ⟨es, clock, h1, h2⟩ := h
  exact ⟨es, clock, hb.trans h1, h2⟩
omit [DecidableEq κ] in
theorem MapE.ext {w w' : World} {b : Nat} {l : List (κ × ν)} (h : MapE kV vV w b l) (he : Ext w w') : MapE kV vV w' b l := h.at_ (he.block h.lt)
omit [DecidableEq κ] in
theorem MapE.extM {w w' : World} {b c : Nat} {l : List (κ × ν)} (h : MapE kV vV w b l) (he : ExtM c w w') (hc : b ≠ c) : MapE kV vV w' b l := h.at_ (he.block b h.lt hc)
omit [DecidableEq κ] in
theorem MapE.new (w : World) : MapE kV vV (w.alloc (.map #[] 0)) w.heap.size ([] : List (κ × ν)) :=
  ⟨#[], 0, heap_alloc_new w _, rfl, List.nodup_nil, List.nodup_nil, by simp⟩
omit [DecidableEq κ] in
theorem MapE.nodup {w : World} {b : Nat} {l : List (κ × ν)} (h : MapE kV vV w b l) : (l.map (·.1)).Nodup := by
  obtain ⟨_, _, _, _, h, _⟩ := h
  exact h

theorem run_findAsking (K : KeyE P T kV) (k : κ) (w : World) : ∀ (es : List MapEntry) (l : List (κ × ν)) (i : Nat), es.map (fun x => (x.key, x.val)) = l.map (entE kV vV) →
    (Instr.findAsking T (kV k) es i).run P w = .ok ((fdE k l i).map fun p => (p.1, vV p.2)) w
  | [], [], i, _ => rfl
  | [], _ :: _, _, h => by simp at h
  | _ :: _, [], _, h => by simp at h
  | x :: es, y :: l, i, h => by
    simp only [List.map_cons, List.cons.injEq, entE, Prod.mk.injEq] at h
    obtain ⟨⟨h1, h2⟩, h3⟩ := h
    unfold Instr.findAsking fdE
    simp only [Sem.run_bind, h1, K.eq, Result.andThen]
    by_cases hk : k = y.1
    · simp [hk, h2]
    · simp [hk, run_findAsking K k w es l (i + 1) h3]
theorem run_findE (K : KeyE P T kV) (k : κ) (w : World) (es : List MapEntry) (l : List (κ × ν)) (h : es.map (fun x => (x.key, x.val)) = l.map (entE kV vV)) :
    (Instr.findKey T (kV k) es).run P w = .ok ((fdE k l 0).map fun p => (p.1, vV p.2)) w := by
  unfold Instr.findKey
  cases es with
  | nil =>
    cases l with
    | nil =>
      obtain ⟨d, hd, hn, _⟩ := K.now k k [] 0 .nilIface 0
      simp only [Sem.run_bind, run_underlying hd, Result.andThen, hn]
      rfl
    | cons _ _ => simp at h
  | cons x es =>
    cases l with
    | nil => simp at h
    | cons y l =>
      have hx : x.key = kV y.1 := by simp [entE] at h; exact h.1.1
      obtain ⟨xk, xv, xb⟩ := x
      simp only at hx
      subst hx
      obtain ⟨d, hd, _, hn⟩ := K.now k y.1 es 0 xv xb
      simp only [Sem.run_bind, run_underlying hd, Result.andThen, hn]
      exact run_findAsking K k w _ _ 0 h
/-- 'm[k]' -/
theorem MapE.run_look (K : KeyE P T kV) (ht : P.underlying t = some (.map T e)) {w : World} {b : Nat} {l : List (κ × ν)} (h : MapE kV vV w b l) {z : ν} (hz : ∀ w, (zeroValue e).run P w = .ok (vV z) w) (k : κ) :
    (Instr.lookup t (.map (some b)) (kV k) false).run P w = .ok (vV ((ofE k l).getD z)) w := by
  obtain ⟨es, clock, hb, h1, _⟩ := h
  unfold Instr.lookup
  simp only [Sem.run_bind, run_underlying ht, Result.andThen, MapKept.run_getObj_map hb, Sem.run_pure, K.chk, run_findE K k w es.toList l h1]
  unfold ofE
  cases fdE k l 0 with
  | none => simp [hz]
  | some p => simp
theorem modify_map {k : κ} {n : ν} : ∀ (es : List MapEntry) (l : List (κ × ν)) (i j : Nat) (v : ν), es.map (fun x => (x.key, x.val)) = l.map (entE kV vV) → fdE k l i = some (i + j, v) →
    (es.modify j fun x => { x with key := kV k, val := vV n }).map (fun x => (x.key, x.val)) = (updE k n l).map (entE kV vV) ∧ (es.modify j fun x => { x with key := kV k, val := vV n }).map (·.born) = es.map (·.born) ∧ (es[j]?).map (·.key) = some (kV k)
  | [], [], i, j, v, _, h => by simp [fdE] at h
  | [], _ :: _, _, _, _, h, _ => by simp at h
  | _ :: _, [], _, _, _, h, _ => by simp at h
  | a :: es, y :: l, i, j, v, h, hf => by
    simp only [List.map_cons, List.cons.injEq, entE, Prod.mk.injEq] at h
    obtain ⟨⟨h1, h2⟩, h3⟩ := h
    unfold fdE at hf
    unfold updE
    by_cases hk : k = y.1
    · rw [if_pos hk] at hf ⊢
      injection hf with hf; injection hf with hf hv
      obtain rfl : j = 0 := by omega
      refine ⟨?_, ?_, ?_⟩
      · simp [List.modify_zero_cons, entE]; exact h3
      · simp
      · simp [h1, hk]
    · rw [if_neg hk] at hf ⊢
      have hlt : ∀ (l : List (κ × ν)) (i : Nat) (p : Nat × ν), fdE k l i = some p → i ≤ p.1 := by
        intro l
        induction l with
        | nil => intro i p h; simp [fdE] at h
        | cons x l ih =>
          intro i p h
          unfold fdE at h
          split at h
          · injection h with h; subst h; exact Nat.le_refl _
          · exact Nat.le_of_succ_le (ih _ _ h)
      have hj := hlt _ _ _ hf
      simp only at hj
      obtain ⟨j, rfl⟩ : ∃ j', j = j' + 1 := ⟨j - 1, by omega⟩
      obtain ⟨q1, q2, q3⟩ := modify_map (n := n) es l (i + 1) j v h3 (by rw [hf]; congr 2; omega)
      refine ⟨?_, ?_, ?_⟩
      · simp [List.modify_succ_cons, entE, h1, h2, q1]
      · simp [List.modify_succ_cons, q2]
      · simpa using q3
theorem erase_map {k : κ} : ∀ (es : List MapEntry) (l : List (κ × ν)) (i j : Nat) (v : ν), es.map (fun x => (x.key, x.val)) = l.map (entE kV vV) → fdE k l i = some (i + j, v) →
    (es.eraseIdx j).map (fun x => (x.key, x.val)) = (delE k l).map (entE kV vV) ∧ j < es.length
  | [], [], i, j, v, _, h => by simp [fdE] at h
  | [], _ :: _, _, _, _, h, _ => by simp at h
  | _ :: _, [], _, _, _, h, _ => by simp at h
  | a :: es, y :: l, i, j, v, h, hf => by
    simp only [List.map_cons, List.cons.injEq, entE, Prod.mk.injEq] at h
    obtain ⟨⟨h1, h2⟩, h3⟩ := h
    unfold fdE at hf
    unfold delE
    by_cases hk : k = y.1
    · rw [if_pos hk] at hf ⊢
      injection hf with hf; injection hf with hf hv
      obtain rfl : j = 0 := by omega
      exact ⟨by simpa using h3, by simp⟩
    · rw [if_neg hk] at hf ⊢
      have hlt : ∀ (l : List (κ × ν)) (i : Nat) (p : Nat × ν), fdE k l i = some p → i ≤ p.1 := by
        intro l
        induction l with
        | nil => intro i p h; simp [fdE] at h
        | cons x l ih =>
          intro i p h
          unfold fdE at h
          split at h
          · injection h with h; subst h; exact Nat.le_refl _
          · exact Nat.le_of_succ_le (ih _ _ h)
      have hj := hlt _ _ _ hf
      simp only at hj
      obtain ⟨j, rfl⟩ : ∃ j', j = j' + 1 := ⟨j - 1, by omega⟩
      obtain ⟨q1, q2⟩ := erase_map es l (i + 1) j v h3 (by rw [hf]; congr 2; omega)
      exact ⟨by simp [entE, h1, h2, q1], by simpa using q2⟩
theorem fdE_off {k : κ} {l : List (κ × ν)} {p : Nat × ν} (h : fdE k l 0 = some p) : fdE k l 0 = some (0 + p.1, p.2) := by rw [h, Nat.zero_add]

/-- 'm[k] = n' -/
theorem MapE.run_put (K : KeyE P T kV) (ht : P.underlying t = some (.map T e)) {w : World} {b : Nat} {l : List (κ × ν)} (h : MapE kV vV w b l) (k : κ) (n : ν) :
    ∃ w' l', (Instr.mapUpdate t (.map (some b)) (kV k) (vV n)).run P w = .ok () w' ∧ MapE kV vV w' b l' ∧ ExtM b w w' ∧ ∀ x, x ∈ l' ↔ (x ∈ l ∧ x.1 ≠ k) ∨ x = (k, n) := by
  obtain ⟨es, clock, hb, h1, h2, h3, h4⟩ := h
  have hno : ∀ cs t m, (Obj.map es clock) ≠ .cells cs t m := by intro _ _ _ h; cases h
  have hrun : (Instr.findKey T (kV k) es.toList).run P w = _ := run_findE K k w es.toList l h1
  cases hf : fdE k l 0 with
  | none =>
    rw [hf] at hrun
    refine ⟨{ w with heap := w.heap.setIfInBounds b (.map (es.push ⟨kV k, vV n, clock⟩) (clock + 1)) }, l ++ [(k, n)], ?_, ⟨_, _, (MapKept.heap_set hb).1, ?_, ?_, ?_, ?_⟩, ExtM.set hb hno, ?_⟩
    · unfold Instr.mapUpdate
      simp only [Sem.run_bind, run_underlying ht, Result.andThen, MapKept.run_getObj_map hb, K.chk, hrun, Option.map_none, MapKept.run_setObj_map _ hb]
    · simp [h1, entE]
    · rw [List.map_append, List.nodup_append]
      refine ⟨h2, by simp, fun a ha b hb => ?_⟩
      obtain ⟨x, hx, rfl⟩ := List.mem_map.1 ha
      simp at hb
      subst hb
      exact fdE_none.1 hf x hx
    · simp only [Array.toList_push, List.map_append, List.map_cons, List.map_nil]
      rw [List.nodup_append]
      refine ⟨h3, by simp, fun a ha b hb => ?_⟩
      obtain ⟨x, hx, rfl⟩ := List.mem_map.1 ha
      simp at hb
      subst hb
      exact Nat.ne_of_lt (h4 x hx)
    · intro x hx
      simp only [Array.toList_push, List.mem_append, List.mem_singleton] at hx
      rcases hx with hx | rfl
      · exact Nat.lt_succ_of_lt (h4 x hx)
      · exact Nat.lt_succ_self _
    · intro x
      simp only [List.mem_append, List.mem_singleton]
      constructor
      · rintro (hx | rfl)
        · exact .inl ⟨hx, fdE_none.1 hf x hx⟩
        · exact .inr rfl
      · rintro (⟨hx, _⟩ | rfl)
        · exact .inl hx
        · exact .inr rfl
  | some p =>
    rw [hf] at hrun
    obtain ⟨q1, q2, q3⟩ := modify_map (n := n) es.toList l 0 p.1 p.2 h1 (fdE_off hf)
    have q3 : (es[p.1]?).map (·.key) = some (kV k) := by simpa using q3
    refine ⟨{ w with heap := w.heap.setIfInBounds b (.map (es.modify p.1 fun x => { x with key := kV k, val := vV n }) clock) }, updE k n l, ?_, ⟨_, _, (MapKept.heap_set hb).1, ?_, ?_, ?_, ?_⟩, ExtM.set hb hno, upd_mem h2 hf⟩
    · unfold Instr.mapUpdate
      have hst : (Instr.keyThatStays (kV k) (kV k)).run P w = .ok (kV k) w := by
        unfold Instr.keyThatStays
        rw [if_pos (K.bits k)]; rfl
      simp only [Sem.run_bind, run_underlying ht, Result.andThen, MapKept.run_getObj_map hb, K.chk, hrun, Option.map_some, q3, Option.getD_some, hst, MapKept.run_setObj_map _ hb]
    · rw [Array.toList_modify]; exact q1
    · rw [upd_keys]; exact h2
    · rw [Array.toList_modify, q2]; exact h3
    · intro x hx
      rw [Array.toList_modify] at hx
      have : x.born ∈ (es.toList.modify p.1 fun x => { x with key := kV k, val := vV n }).map (·.born) := List.mem_map.2 ⟨x, hx, rfl⟩
      rw [q2] at this
      obtain ⟨y, hy, he⟩ := List.mem_map.1 this
      rw [← he]; exact h4 y hy
/-- 'delete(m, k)' -/
theorem MapE.run_del (K : KeyE P T kV) (ht : P.underlying t = some (.map T e)) {w : World} {b : Nat} {l : List (κ × ν)} (h : MapE kV vV w b l) (k : κ) :
    ∃ w', (∀ (T' ty : TypeId), (Builtin.delete_ #[t, T'] ty #[.map (some b), kV k]).run P w = .ok (.tuple #[]) w') ∧ MapE kV vV w' b (delE k l) ∧ ExtM b w w' := by
  obtain ⟨es, clock, hb, h1, h2, h3, h4⟩ := h
  have hno : ∀ cs t m, (Obj.map es clock) ≠ .cells cs t m := by intro _ _ _ h; cases h
  have hrun : (Instr.findKey T (kV k) es.toList).run P w = _ := run_findE K k w es.toList l h1
  cases hf : fdE k l 0 with
  | none =>
    rw [hf] at hrun
    have hd : delE k l = l := by
      have := fdE_none.1 hf
      clear hf h1 h2 hrun
      induction l with
      | nil => rfl
      | cons x l ih =>
        unfold delE
        rw [if_neg (fun q => this x (List.mem_cons_self ..) q.symm), ih fun y hy => this y (List.mem_cons_of_mem _ hy)]
    refine ⟨{ w with heap := w.heap.setIfInBounds b (.map es clock) }, fun T' ty => ?_, ⟨_, _, (MapKept.heap_set hb).1, by rw [hd]; exact h1, by rw [hd]; exact h2, h3, h4⟩, ExtM.set hb hno⟩
    unfold Builtin.delete_
    simp [run_underlying ht, Result.andThen, MapKept.run_getObj_map hb, K.chk, hrun, MapKept.run_setObj_map _ hb]
  | some p =>
    rw [hf] at hrun
    obtain ⟨q1, q2⟩ := erase_map es.toList l 0 p.1 p.2 h1 (fdE_off hf)
    have q2 : p.1 < es.size := by simpa using q2
    have he : (es.eraseIdxIfInBounds p.1).toList = es.toList.eraseIdx p.1 := by
      unfold Array.eraseIdxIfInBounds
      rw [dif_pos q2, Array.toList_eraseIdx]
    refine ⟨{ w with heap := w.heap.setIfInBounds b (.map (es.eraseIdxIfInBounds p.1) clock) }, fun T' ty => ?_, ⟨_, _, (MapKept.heap_set hb).1, by rw [he]; exact q1, ?_, ?_, ?_⟩, ExtM.set hb hno⟩
    · unfold Builtin.delete_
      simp [run_underlying ht, Result.andThen, MapKept.run_getObj_map hb, K.chk, hrun, MapKept.run_setObj_map _ hb]
    · exact h2.sublist ((del_sub l).map _)
    · rw [he]; exact h3.sublist ((List.eraseIdx_sublist _ _).map _)
    · intro x hx
      rw [he] at hx
      exact h4 x ((List.eraseIdx_sublist _ _).subset hx)

/-! ### a range over such a map -/
/-- the block r holds an iterator of the map b: what of l has come -/
structure Iter (kV : κ → Value) (vV : ν → Value) (w : World) (r b : Nat) (es : Array MapEntry) (clock : Nat) (l : List (κ × ν)) (seen : Array Nat) : Prop where
  it : w.heap[r]? = some (.mapIter (some b) clock seen clock)
  map : w.heap[b]? = some (.map es clock)
  ent : es.toList.map (fun x => (x.key, x.val)) = l.map (entE kV vV)
  born : (es.toList.map (·.born)).Nodup
  old : ∀ x ∈ es.toList, x.born < clock
/-- those that have come -/
def came (es : Array MapEntry) (l : List (κ × ν)) (seen : Array Nat) : List (κ × ν) := ((es.toList.zip l).filter fun p => seen.contains p.1.born).map (·.2)
omit [DecidableEq κ] in
theorem came_none (es : Array MapEntry) (l : List (κ × ν)) : came es l #[] = [] := by
  unfold came
  rw [List.filter_eq_nil_iff.2 (by simp)]
  rfl
omit [DecidableEq κ] in
theorem came_all {es : Array MapEntry} {l : List (κ × ν)} {seen : Array Nat} (hl : es.toList.length = l.length) (h : (leftOf es seen).size = 0) : came es l seen = l := by
  unfold came
  rw [List.filter_eq_self.2 fun p hp => all_seen es seen h p.1 (List.of_mem_zip hp).1]
  exact List.map_snd_zip (by omega)
omit [DecidableEq κ] in
theorem came_push (seen : Array Nat) (x : MapEntry) (y : κ × ν) (hs : seen.contains x.born = false) : ∀ (z : List (MapEntry × (κ × ν))), (z.map (·.1.born)).Nodup → (x, y) ∈ z →
    ((z.filter fun p => (seen.push x.born).contains p.1.born).map (·.2)).Perm (((z.filter fun p => seen.contains p.1.born).map (·.2)) ++ [y])
  | p :: z, hn, hm => by
    have hn := List.nodup_cons.1 (by simpa using hn : (p.1.born :: z.map (·.1.born)).Nodup)
    rcases List.mem_cons.1 hm with rfl | hm
    · have e : (z.filter fun p => (seen.push x.born).contains p.1.born) = z.filter fun p => seen.contains p.1.born := by
        refine List.filter_congr fun q hq => ?_
        rw [contains_push]
        have : (q.1.born == x.born) = false := by
          rw [beq_eq_false_iff_ne]
          intro he
          exact hn.1 (by rw [← he]; exact List.mem_map.2 ⟨q, hq, rfl⟩)
        rw [this, Bool.or_false]
      rw [List.filter_cons, List.filter_cons, contains_push, hs, e]
      simp only [beq_self_eq_true, Bool.or_true, if_true, Bool.false_eq_true, if_false, List.map_cons]
      exact (List.perm_append_singleton _ _).symm
    · have hpx : (p.1.born == x.born) = false := by
        rw [beq_eq_false_iff_ne]
        intro he
        exact hn.1 (by rw [he]; exact List.mem_map.2 ⟨_, hm, rfl⟩)
      rw [List.filter_cons, List.filter_cons, contains_push, hpx, Bool.or_false]
      split
      · simp only [List.map_cons, List.cons_append]
        exact (came_push seen x y hs z hn.2 hm).cons _
      · exact came_push seen x y hs z hn.2 hm
/-- a block that is no map nor cells is laid anew -/
theorem run_setObj_at {w : World} {r : Nat} {m : Option Nat} {s : Nat} {x : Array Nat} {y : Nat} (o' : Obj) (hb : w.heap[r]? = some (.mapIter m s x y)) : (setObj r o').run P w = .ok () { w with heap := w.heap.setIfInBounds r o' } := by
  simp [setObj, Sem.run, hb]
omit [DecidableEq κ] in
/-- a step: either nothing is left, or one that has not come -/
theorem Iter.next {w : World} {r b : Nat} {es : Array MapEntry} {clock : Nat} {l : List (κ × ν)} {seen : Array Nat} (h : Iter kV vV w r b es clock l seen) (hne : r ≠ b) (ty : TypeId) :
    ((leftOf es seen).size = 0 ∧ (Instr.next (.pointer (some ⟨r, 0, none⟩)) false ty).run P w = .ok (.tuple #[.bool false]) w) ∨
    ∃ (x : κ × ν) (w' : World) (seen' : Array Nat), (Instr.next (.pointer (some ⟨r, 0, none⟩)) false ty).run P w = .ok (.tuple #[.bool true, kV x.1, vV x.2]) w' ∧ Iter kV vV w' r b es clock l seen' ∧ ExtM r w w' ∧
      (leftOf es seen').size < (leftOf es seen).size ∧ (came es l seen').Perm (came es l seen ++ [x]) ∧ (Instr.entry (.pointer (some ⟨r, 0, none⟩))).run P w' = .ok (.tuple #[kV x.1, vV x.2]) w' := by
  have htest := next_test_false seen es clock clock h.old (Nat.le_refl _)
  simp only [Instr.next, getObj, Sem.run_bind, Sem.run, h.it, h.map, Result.andThen, htest, Bool.false_eq_true, if_false]
  have hL : ∀ y, y ∈ (leftOf es seen).toList → y ∈ es.toList ∧ seen.contains y.born = false := fun y hy => mem_left hy
  have hshr := left_shrinks es seen
  unfold leftOf at hL hshr ⊢
  have hmem : ∀ y ∈ (Array.filter (fun e => !seen.contains e.born) es).toList, y.born < clock := fun y hy => h.old y (by simp at hy ⊢; exact hy.1)
  generalize hLd : Array.filter (fun e => !seen.contains e.born) es = L at *
  have e1 : L.filter (fun x => decide (x.born < clock)) = L := Array.filter_eq_self.2 (fun x hx => by simpa using hmem x (by simpa using hx))
  have e2 : L.filter (fun x => decide (x.born ≥ clock)) = #[] := by
    rw [Array.filter_eq_empty_iff]
    intro x hx
    have := hmem x (by simpa using hx)
    simp
    omega
  simp only [e1, e2, Array.append_empty]
  by_cases h0 : L.size = 0
  · left
    have : L = #[] := Array.eq_empty_of_size_eq_zero h0
    subst this
    refine ⟨rfl, ?_⟩
    simp [choose, Sem.run, Question.forced]
  · right
    have hne' : L.isEmpty = false := by simp [Array.isEmpty, h0]
    simp only [hne', Bool.false_eq_true, if_false, Array.empty_append, Array.size_map]
    have hch : ∃ (j : Nat) (w1 : World), j < L.size ∧ w1.heap = w.heap ∧ Ext w w1 ∧ (choose (Question.mapNext L.size)).run P w = .ok j w1 := by
      by_cases hf : L.size ≤ 1
      · exact ⟨0, w, by omega, rfl, Ext.refl _, by simp [choose, Sem.run, Question.forced, hf]⟩
      · exact ⟨_, w.drew, Nat.mod_lt _ (by omega), rfl, (Ext.refl _).drew, by
          simp only [choose, Sem.run, Question.forced, decide_eq_true_eq, hf, if_false, Question.cut]
          rfl⟩
    obtain ⟨j, w1, hj, hheap, hext, hrun⟩ := hch
    have hLj : L[j] ∈ L.toList := by simp
    obtain ⟨hes, hsn⟩ := hL _ hLj
    obtain ⟨i, hi, hie⟩ := List.getElem_of_mem hes
    have hll : es.toList.length = l.length := by
      have := congrArg List.length h.ent
      simpa using this
    have hil : i < l.length := by omega
    have hpair : (es.toList[i].key, es.toList[i].val) = entE kV vV l[i] := by
      have h1 : (es.toList.map (fun x => (x.key, x.val)))[i]? = (l.map (entE kV vV))[i]? := by rw [h.ent]
      rw [List.getElem?_map, List.getElem?_map, List.getElem?_eq_getElem hi, List.getElem?_eq_getElem hil] at h1
      simpa using h1
    rw [hie] at hpair
    unfold entE at hpair
    injection hpair with hk hv
    have hz : (L[j], l[i]) ∈ es.toList.zip l := by
      rw [← hie]
      have : (es.toList.zip l)[i]'(by rw [List.length_zip]; omega) = (es.toList[i], l[i]) := List.getElem_zip
      rw [← this]
      exact List.getElem_mem _
    have hzn : ((es.toList.zip l).map (·.1.born)).Nodup := by
      have : (es.toList.zip l).map (·.1.born) = es.toList.map (·.born) := by
        have h1 := congrArg (List.map (·.born)) (List.map_fst_zip (l₁ := es.toList) (l₂ := l) (by omega))
        rw [List.map_map] at h1
        exact h1
      rw [this]; exact h.born
    have hit1 : w1.heap[r]? = some (.mapIter (some b) clock seen clock) := by rw [hheap]; exact h.it
    have hmp1 : w1.heap[b]? = some (.map es clock) := by rw [hheap]; exact h.map
    refine ⟨l[i], { w1 with heap := w1.heap.setIfInBounds r (.mapIter (some b) clock (seen.push L[j].born) clock) }, seen.push L[j].born, ?_, ⟨(MapKept.heap_set hit1).1, ((MapKept.heap_set hit1).2 b (Ne.symm hne)).trans hmp1, h.ent, h.born, h.old⟩,
      (ExtM.of hext).trans (ExtM.set hit1 (by intro _ _ _ q; cases q)), hshr _ hLj, ?_, ?_⟩
    · simp only [hrun, Array.getElem?_map, Array.getElem?_eq_getElem hj, Option.map_some, Sem.run_bind, run_setObj_at _ hit1, Result.andThen, hk, hv]
      rfl
    · exact came_push seen _ _ hsn _ hzn hz
    · have hf : es.find? (·.born == L[j].born) = some L[j] := by rw [← Array.find?_toList]; exact find_born _ es.toList h.born hes
      simp only [Instr.entry, getObj, Sem.run_bind, Sem.run, (MapKept.heap_set hit1).1, ((MapKept.heap_set hit1).2 b (Ne.symm hne)).trans hmp1, Result.andThen, Array.back?_push, bne_self_eq_false, Bool.false_eq_true, if_false, hf, hk, hv]
      rfl
omit [DecidableEq κ] in
theorem Iter.ext {w w' : World} {r b : Nat} {es : Array MapEntry} {clock : Nat} {l : List (κ × ν)} {seen : Array Nat} (h : Iter kV vV w r b es clock l seen) (he : Ext w w') : Iter kV vV w' r b es clock l seen := by
  have h1 : r < w.heap.size := (Array.getElem?_eq_some_iff.1 h.it).1
  have h2 : b < w.heap.size := (Array.getElem?_eq_some_iff.1 h.map).1
  exact ⟨(he.block h1).trans h.it, (he.block h2).trans h.map, h.ent, h.born, h.old⟩
omit [DecidableEq κ] in
/-- where a range begins -/
theorem MapE.range (ht : P.underlying t = some (.map T e)) {w : World} {b : Nat} {l : List (κ × ν)} (h : MapE kV vV w b l) :
    ∃ es clock, (Instr.range t (.map (some b))).run P w = .ok (.pointer (some ⟨w.heap.size, 0, none⟩)) (w.alloc (.mapIter (some b) clock #[] clock)) ∧
      Iter kV vV (w.alloc (.mapIter (some b) clock #[] clock)) w.heap.size b es clock l #[] ∧ es.toList.length = l.length := by
  have hlt := h.lt
  obtain ⟨es, clock, hb, h1, h2, h3, h4⟩ := h
  exact ⟨es, clock, run_range_map w t T e b es clock ht hb, ⟨heap_alloc_new w _, (heap_alloc_old w _ hlt).trans hb, h1, h3, h4⟩, by have := congrArg List.length h1; simpa using this⟩
end
end Go.Ox
