/-
  Slices of slices: one that reads as rows, one of the call's own that holds rows.
-/
import Derived.Test.YtklnbmcfnnmliaaDoorMem2
namespace Go.Ox
open Go.RowKit

/-- v is a slice of slices, which read as these rows: of each how many elements, and its cells -/
def Rws (s : Nat) (w : World) (v : Value) (rows : List (Nat × List Value)) : Prop :=
  ∃ vs : List Value, Rd w 1 v rows.length vs ∧ ∀ (k : Nat) (hk : k < rows.length), ∃ u, vs[k]? = some u ∧ Rd w s u rows[k].1 rows[k].2

theorem Rws.ext {s : Nat} {w w' : World} {v : Value} {rows : List (Nat × List Value)} (h : Rws s w v rows) (he : Ext w w') : Rws s w' v rows := by
  obtain ⟨vs, h1, h2⟩ := h
  refine ⟨vs, h1.ext he, fun k hk => ?_⟩
  obtain ⟨u, hu, hr⟩ := h2 k hk
  exact ⟨u, hu, hr.ext he⟩
theorem Rws.form {s : Nat} {w : World} {v : Value} {rows : List (Nat × List Value)} (h : Rws s w v rows) : ∃ A c, v = .slice A rows.length c := by
  obtain ⟨vs, ⟨A, c, h, _⟩, _⟩ := h
  exact ⟨A, c, h⟩
theorem Rws.nil (s : Nat) (w : World) : Rws s w (.slice none 0 0) [] := ⟨[], Rd.nil _ _, fun _ hk => absurd hk (Nat.not_lt_zero _)⟩

theorem Rd.form {w : World} {s n : Nat} {v : Value} {xs : List Value} (h : Rd w s v n xs) : ∃ A c, v = .slice A n c := by
  obtain ⟨A, c, h, _⟩ := h
  exact ⟨A, c, h⟩
theorem Rd.lenX {w : World} {s n : Nat} {v : Value} {xs : List Value} (h : Rd w s v n xs) : xs.length = n * s := by
  obtain ⟨A, c, _, h⟩ := h
  exact h.len
/-- the value's block is not that one -/
def Away (u : Value) (g : Option Nat) : Prop := ∀ A n c ad, u = .slice A n c → A = some ad → g ≠ some ad.block
theorem Away.none (u : Value) : Away u none := fun _ _ _ _ _ _ h => by cases h
theorem Rd.grown {s n : Nat} {w w' : World} {u : Value} {xs : List Value} {row : Option Nat} (h : Rd w s u n xs) (hg : w.grownBy w' row) (ha : n ≠ 0 → Away u row) : Rd w' s u n xs := by
  obtain ⟨A, c, rfl, h⟩ := h
  refine ⟨A, c, rfl, h.len, h.nc, h.cm, h.nil, fun ad hA j x hx => ?_⟩
  obtain ⟨h1, h2⟩ := h.at_ ad hA j x hx
  refine ⟨h1, ?_⟩
  have hn : n ≠ 0 := by
    intro h0
    have := h.len
    rw [h0, Nat.zero_mul] at this
    rw [List.eq_nil_of_length_eq_zero this] at hx
    cases hx
  have hb := hg.block ad.block (World.block_lt_of_cell? w ⟨ad.block, ad.off + j, none⟩ h2) (fun e => ha hn A n c ad rfl hA e.symm)
  exact (World.cell?_of_block (a := ⟨ad.block, ad.off + j, none⟩) hb).trans h2
/-- what has a cell lies in the heap -/
theorem Rd.block_lt {s n : Nat} {w : World} {u : Value} {xs : List Value} (h : Rd w s u n xs) (hs : 0 < s) (hn : n ≠ 0) : ∀ A k c ad, u = .slice A k c → A = some ad → ad.block < w.heap.size := by
  rintro A k c ad rfl rfl
  obtain ⟨A', c', he, h⟩ := h
  injection he with e1 e2 e3
  subst e1 e2 e3
  have h0 : 0 < xs.length := by rw [h.len]; exact Nat.mul_pos (by omega) hs
  obtain ⟨_, h2⟩ := h.at_ _ rfl 0 _ (List.getElem?_eq_getElem h0)
  exact World.block_lt_of_cell? w ⟨ad.block, ad.off + 0, none⟩ h2
theorem away_own {w : World} {base E s n : Nat} {u : Value} {xs : List Value} (h : w.ownsRow base E s u n xs) {g : Option Nat} (hg : ∀ k, u.ownBlock = some k → g ≠ some k) : Away u g := by
  rcases h.2 with ⟨rfl, _⟩ | ⟨k, cap, cur, rfl, _⟩
  · intro A n c ad hu hA
    injection hu with e1
    subst e1; cases hA
  · intro A n c ad hu hA
    injection hu with e1
    subst e1
    cases hA
    exact hg k rfl

/-- a slice of slices of the call's own; its own cells are not in the block of one of the rows -/
structure Rwo (T base s : Nat) (w : World) (v : Value) (rows : List (Nat × List Value)) (vs : List Value) : Prop where
  own : w.ownsRow base T 1 v rows.length vs
  at_ : ∀ (k : Nat) (hk : k < rows.length), ∃ u, vs[k]? = some u ∧ Rd w s u rows[k].1 rows[k].2 ∧ (rows[k].1 ≠ 0 → Away u v.ownBlock)

section
variable {T base s : Nat} {w w' : World} {v v' : Value} {rows : List (Nat × List Value)} {vs : List Value}
theorem Rwo.rr (h : Rwo T base s w v rows vs) : Rws s w v rows := ⟨vs, Rd.of_own h.own, fun k hk => by
  obtain ⟨u, h1, h2, _⟩ := h.at_ k hk
  exact ⟨u, h1, h2⟩⟩
theorem Rwo.ext (h : Rwo T base s w v rows vs) (he : Ext w w') : Rwo T base s w' v rows vs := ⟨ownsRow_ext h.own he, fun k hk => by
  obtain ⟨u, h1, h2, h3⟩ := h.at_ k hk
  exact ⟨u, h1, h2.ext he, h3⟩⟩
theorem Rwo.low {base' : Nat} (h : Rwo T base s w v rows vs) (hb : base' ≤ base) : Rwo T base' s w v rows vs := ⟨ownsRow_low h.own hb, h.at_⟩
theorem Rwo.nil (T base s : Nat) (w : World) : Rwo T base s w (.slice none 0 0) [] [] := ⟨World.ownsRow_nil _ _ _ _, fun _ hk => absurd hk (Nat.not_lt_zero _)⟩
/-- one more, behind the others -/
theorem Rwo.push {cs : Array Value} {T' : TypeId} {u : Value} {n : Nat} {xs : List Value} (h : Rwo T base s w v rows vs) (hs : 0 < s) (hu : Rd w s u n xs) (haw : n ≠ 0 → Away u v.ownBlock) (ha : Appended (w.alloc (.cells cs T')) w' base T 1 v v' rows.length 1 vs [u]) :
    Rwo T base s w' v' (rows ++ [(n, xs)]) (vs ++ [u]) := by
  have hgr : w.grownBy w' v.ownBlock := by
    have h1 := ha.grown
    refine ⟨h1.os, h1.tape, h1.output, by have := h1.size; simp at this; omega, fun k hk hne => ?_⟩
    rw [h1.block k (by simp; omega) hne]
    exact ((Ext.refl w).alloc _).block hk
  have hlen : vs.length = rows.length := by have := h.own.1; omega
  have aw : ∀ {x : Value} {m : Nat} {ys : List Value}, Rd w s x m ys → (m ≠ 0 → Away x v.ownBlock) → (m ≠ 0 → Away x v'.ownBlock) := by
    intro x m ys hx hax hm
    rcases ha.at_ with e | e
    · rw [e]; exact hax hm
    · rw [e]
      intro A k c ad hxx hA he
      have := hx.block_lt hs hm A k c ad hxx hA
      simp at he
      omega
  refine ⟨by rw [List.length_append]; exact ha.own, fun k hk => ?_⟩
  by_cases hk2 : k < rows.length
  · obtain ⟨x, h1, h2, h3⟩ := h.at_ k hk2
    refine ⟨x, by rw [List.getElem?_append_left (by omega)]; exact h1, ?_, ?_⟩
    · rw [List.getElem_append_left hk2]; exact h2.grown hgr h3
    · rw [List.getElem_append_left hk2]; exact aw h2 h3
  · have hk3 : k = rows.length := by rw [List.length_append] at hk; simp at hk; omega
    subst hk3
    refine ⟨u, by rw [List.getElem?_append_right (by omega), hlen]; simp, ?_, ?_⟩
    · rw [List.getElem_append_right (Nat.le_refl _)]; simp only [Nat.sub_self, List.getElem_singleton]; exact hu.grown hgr haw
    · rw [List.getElem_append_right (Nat.le_refl _)]; simp only [Nat.sub_self, List.getElem_singleton]; exact aw hu haw
end
theorem Rwo.one_cell {T base s : Nat} {w : World} {v : Value} {rows : List (Nat × List Value)} {vs : List Value} (h : Rwo T base s w v rows vs) : ∀ u ∈ vs, u.oneCell' = true := by
  intro u hu
  obtain ⟨k, hk, rfl⟩ := List.getElem_of_mem hu
  have hlen : vs.length = rows.length := by have := h.own.1; omega
  obtain ⟨x, h1, ⟨A, c, h2, _⟩, _⟩ := h.at_ k (by omega)
  rw [List.getElem?_eq_getElem hk] at h1
  injection h1 with h1
  rw [h1, h2]; rfl
theorem Rws.one_cell {s : Nat} {w : World} {rows : List (Nat × List Value)} {vs : List Value} (h2 : ∀ (k : Nat) (hk : k < rows.length), ∃ u, vs[k]? = some u ∧ Rd w s u rows[k].1 rows[k].2) (hl : vs.length = rows.length) : ∀ u ∈ vs, u.oneCell' = true := by
  intro u hu
  obtain ⟨k, hk, rfl⟩ := List.getElem_of_mem hu
  obtain ⟨x, h1, ⟨A, c, h3, _⟩⟩ := h2 k (by omega)
  rw [List.getElem?_eq_getElem hk] at h1
  injection h1 with h1
  rw [h1, h3]; rfl

/-- bytes as a row -/
def byteRow (l : List UInt8) : Nat × List Value := (l.length, l.map byteV)
/-- a slice of slices of bytes -/
def RBB (w : World) (v : Value) (ls : List (List UInt8)) : Prop := Rws 1 w v (ls.map byteRow)
theorem RBB.ext {w w' : World} {v : Value} {ls : List (List UInt8)} (h : RBB w v ls) (he : Ext w w') : RBB w' v ls := Rws.ext h he
theorem RBB.form {w : World} {v : Value} {ls : List (List UInt8)} (h : RBB w v ls) : ∃ A c, v = .slice A ls.length c := by
  obtain ⟨A, c, h⟩ := Rws.form h
  exact ⟨A, c, by rw [h, List.length_map]⟩
/-- what is at one of its places -/
theorem RBB.at_ {w : World} {A : Option Addr} {n c : Nat} {ls : List (List UInt8)} (h : RBB w (.slice A n c) ls) {k : Nat} (hk : k < ls.length) :
    ∃ b o u, A = some ⟨b, o, none⟩ ∧ w.cell? ⟨b, o + k, none⟩ = some u ∧ RB w u ls[k] := by
  obtain ⟨vs, ⟨A', c', he, hr⟩, h2⟩ := h
  injection he with e1 e2 e3
  subst e1
  rw [List.length_map] at hr
  obtain ⟨b, o, rfl⟩ := hr.addr (by omega)
  obtain ⟨u, hu, hru⟩ := h2 k (by rw [List.length_map]; exact hk)
  rw [List.getElem_map] at hru
  exact ⟨b, o, u, rfl, hr.get hu, hru⟩
end Go.Ox
