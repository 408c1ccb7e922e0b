/-
  The plain law of packs; rows of bytes as own rows.
-/
import Derived.Test.YtacpomonidmjaaaEntPut
namespace Go.Ox.Ent
/-- some bytes more: to the last pack, or a new one -/
def addP (out : List (List UInt8)) (b : List UInt8) : List (List UInt8) :=
  match out.getLast? with
  | some x => if 43 < x.length + b.length then out ++ [b] else out.dropLast ++ [x ++ b]
  | none => [b]
def pkF (l : List E) : List (List UInt8) := l.foldl (fun out e => addP out (entL e)) []
theorem addP_nil (b : List UInt8) : addP [] b = [b] := rfl
theorem addP_new {out : List (List UInt8)} {x b : List UInt8} (h : 43 < x.length + b.length) : addP (out ++ [x]) b = out ++ [x] ++ [b] := by
  unfold addP
  rw [List.getLast?_append]
  simp [h]
theorem addP_more {out : List (List UInt8)} {x b : List UInt8} (h : ¬ 43 < x.length + b.length) : addP (out ++ [x]) b = out ++ [x ++ b] := by
  unfold addP
  rw [List.getLast?_append]
  simp [h]
theorem pkF_snoc (l : List E) (e : E) : pkF (l ++ [e]) = addP (pkF l) (entL e) := by unfold pkF; rw [List.foldl_append]; rfl
theorem pkF_take (l : List E) {k : Nat} (h : k < l.length) : pkF (l.take (k + 1)) = addP (pkF (l.take k)) (entL l[k]) := by
  rw [List.take_succ_eq_append_getElem h, pkF_snoc]
theorem snoc_ind {α : Type} {P : List α → Prop} (h0 : P []) (h1 : ∀ l a, P l → P (l ++ [a])) (l : List α) : P l := by
  have key : ∀ m : List α, P m.reverse := by
    intro m
    induction m with
    | nil => exact h0
    | cons a m ih => rw [List.reverse_cons]; exact h1 _ _ ih
  have := key l.reverse
  rwa [List.reverse_reverse] at this
/-- the packs with what they hold -/
structure Seg (l : List E) (ls : List (List E)) : Prop where
  flat : ls.flatten = l
  pk : pkF l = ls.map fun s => s.flatMap entL
  ne : ∀ s ∈ ls, s ≠ []
  le : ∀ s ∈ ls, (s.flatMap entL).length ≤ 43
theorem seg_any : ∀ (l : List E), (∀ e ∈ l, okE e = 0) → ∃ ls, Seg l ls := by
  refine snoc_ind (P := fun l => (∀ e ∈ l, okE e = 0) → ∃ ls, Seg l ls) ?_ ?_
  · exact fun _ => ⟨[], rfl, rfl, by simp, by simp⟩
  · intro l e ih h
    obtain ⟨ls, h1, h2, h3, h4⟩ := ih fun x hx => h x (List.mem_append_left _ hx)
    have hb := entL_len (h e (by simp))
    rcases List.eq_nil_or_concat ls with q | ⟨L, s, q⟩
    · subst q
      refine ⟨[[e]], by rw [← h1]; rfl, by rw [pkF_snoc, h2]; simp [addP], by simp, ?_⟩
      intro s hs
      rw [List.mem_singleton.1 hs]
      simp; omega
    · rw [List.concat_eq_append] at q
      subst q
      rw [List.map_append] at h2
      by_cases hc : 43 < (s.flatMap entL).length + (entL e).length
      · refine ⟨L ++ [s] ++ [[e]], by rw [List.flatten_append, h1]; simp, ?_, ?_, ?_⟩
        · rw [pkF_snoc, h2]
          simp only [List.map_cons, List.map_nil, List.map_append]
          rw [addP_new hc]
          simp
        · intro x hx
          rcases List.mem_append.1 hx with r | r
          · exact h3 x r
          · rw [List.mem_singleton.1 r]; simp
        · intro x hx
          rcases List.mem_append.1 hx with r | r
          · exact h4 x r
          · rw [List.mem_singleton.1 r]; simp; omega
      · refine ⟨L ++ [s ++ [e]], by rw [← h1]; simp, ?_, ?_, ?_⟩
        · rw [pkF_snoc, h2]
          simp only [List.map_cons, List.map_nil, List.map_append]
          rw [addP_more hc]
          simp
        · intro x hx
          rcases List.mem_append.1 hx with r | r
          · exact h3 x (List.mem_append_left _ r)
          · rw [List.mem_singleton.1 r]; simp
        · intro x hx
          rcases List.mem_append.1 hx with r | r
          · exact h4 x (List.mem_append_left _ r)
          · rw [List.mem_singleton.1 r, List.flatMap_append, List.length_append]; simp only [List.flatMap_cons, List.flatMap_nil, List.append_nil]; omega
/-- behind the first entry there is a last pack, and it holds something -/
theorem pkF_last {l : List E} (h : ∀ e ∈ l, okE e = 0) (hne : l ≠ []) : ∃ out x, pkF l = out ++ [x] ∧ x ≠ [] ∧ x.length ≤ 43 := by
  obtain ⟨ls, h1, h2, h3, h4⟩ := seg_any l h
  rcases List.eq_nil_or_concat ls with q | ⟨L, s, q⟩
  · subst q; exact absurd h1.symm hne
  · rw [List.concat_eq_append] at q
    subst q
    rw [List.map_append] at h2
    refine ⟨_, _, h2, ?_, h4 s (by simp)⟩
    have hs := h3 s (by simp)
    match s, hs with
    | e :: t, _ =>
      have he := entL_len (h e (by rw [← h1]; simp))
      intro q
      have := congrArg List.length q
      simp only [List.flatMap_cons, List.length_append, List.length_nil] at this
      omega
theorem pkF_len (l : List E) : (pkF l).length ≤ l.length := by
  refine snoc_ind (P := fun l => (pkF l).length ≤ l.length) ?_ ?_ l
  · exact Nat.le_refl _
  · intro l e ih
    rw [pkF_snoc, List.length_append]
    rcases List.eq_nil_or_concat (pkF l) with q | ⟨L, s, q⟩
    · rw [q]; simp [addP]
    · rw [List.concat_eq_append] at q
      rw [q] at ih ⊢
      simp only [List.length_append, List.length_singleton] at ih ⊢
      by_cases hc : 43 < s.length + (entL e).length
      · rw [addP_new hc]; simp; omega
      · rw [addP_more hc]; simp; omega
end Go.Ox.Ent
namespace Go.Ox
open Go.RowKit
instance encU8 : Enc UInt8 where
  k := 1
  enc b := [byteV b]
  len _ := rfl
  pos := by omega
  one x u hu := by simp at hu; rw [hu]; rfl
theorem eV_u8 (l : List UInt8) : eV l = l.map byteV := by
  unfold eV
  induction l with
  | nil => rfl
  | cons a l ih => rw [List.flatMap_cons, ih]; rfl
theorem OB.oe {E base : Nat} {w : World} {v : Value} {l : List UInt8} (h : OB E base w v l) : OE E base w v l := by
  refine OE.mk ?_
  rw [eV_u8]
  exact h.own
theorem OE.ob {E base : Nat} {w : World} {v : Value} {l : List UInt8} (h : OE E base w v l) : OB E base w v l := by
  have h1 := h.own
  rw [eV_u8] at h1
  exact h1
theorem RE.rb {w : World} {v : Value} {l : List UInt8} (h : RE w v l) : RB w v l := by
  have h1 : Rd w 1 v l.length (eV l) := h.rd
  rw [eV_u8] at h1
  obtain ⟨A, c, hv, hr⟩ := h1
  exact ⟨A, c, hv, hr⟩
section
variable {α : Type} [C : Enc α] {T E base : Nat} {w w' : World} {v : Value} {ls : List (List α)} {us : List Value}
/-- a block that is neither the rows' nor the list's own changed -/
theorem OV.grownR {row : Option Nat} (h : OV T E base w v ls us) (hg : w.grownBy w' row) (h1 : ∀ g, v.ownBlock = some g → row ≠ some g) (h2 : ∀ (j : Nat) (y : Value), us[j]? = some y → ∀ g, y.ownBlock = some g → row ≠ some g) : OV T E base w' v ls us :=
  ⟨ownsRow_grown h.own hg h1, fun k hk => by
    obtain ⟨u, a, b, c⟩ := h.row k hk
    exact ⟨u, a, b.grown hg (h2 k u a), c⟩, h.apart⟩
theorem OV.row_lt (h : OV T E base w v ls us) {j : Nat} {y : Value} (hy : us[j]? = some y) {g : Nat} (hg : y.ownBlock = some g) : base ≤ g ∧ g < w.heap.size := by
  have hjl : j < ls.length := by have := (List.getElem?_eq_some_iff.1 hy).1; have := h.len; omega
  obtain ⟨u, hu, ho, _⟩ := h.row j hjl
  rw [hy] at hu
  injection hu with hu
  subst hu
  exact ho.own.lt g hg
end
end Go.Ox
