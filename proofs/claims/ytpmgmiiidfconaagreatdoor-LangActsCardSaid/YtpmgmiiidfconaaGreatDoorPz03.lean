/-
  Open, Flat, Sort, packed: what the claim needs of them.
-/
import Derived.Test.YtpmgmiiidfconaaGreatDoorPz02
import Derived.ProofKit
import Derived.OpenShut
import Derived.ShutString
import Derived.Below
import Derived.Deep.Slices
import Derived.Shelf.SlSortCmp.InsertionK
namespace Go.Ox
open Go.ChangeShapes Go.WideShapes Go.ChangeAt Go.RowKit
section
variable {H : Type} {enc : TypeId × Value → H} {P : Program} {t e : TypeId} {W : World}
theorem lt_of_trod {v : Value} {d : DataW H} {p : List MemPlace} {base : Nat} {sp : Nat → Bool} {held : Bool} (h : DataW.Trod enc P W base sp held t v d p) : ∀ x ∈ p, x.block < W.heap.size := by
  obtain ⟨m, hm⟩ := h
  exact DataW.trod_lt m _ _ _ hm
end
end Go.Ox
namespace Go.Ox
open Go.ChangeShapes Go.WideShapes Go.ChangeAt Go.RowKit Go.Deep
section
variable {H : Type} {enc : TypeId × Value → H} {P : Program} {W : World} {base : Nat} {sp : Nat → Bool} {held : Bool}
theorem flatten_at {α : Type} {L : Nat} (hL : 0 < L) : ∀ (rows : List (List α)), (∀ r ∈ rows, r.length = L) → ∀ j, rows.flatten[j]? = (rows[j / L]?).bind fun r => r[j % L]?
  | [], _, j => by simp
  | r :: rows, h, j => by
    have hr := h r (List.mem_cons_self ..)
    rw [List.flatten_cons]
    by_cases hj : j < L
    · rw [List.getElem?_append_left (by omega), Nat.div_eq_of_lt hj, Nat.mod_eq_of_lt hj]
      simp
    · rw [List.getElem?_append_right (by omega), hr, flatten_at hL rows (fun x hx => h x (List.mem_cons_of_mem _ hx))]
      have e1 : j / L = (j - L) / L + 1 := by
        rw [← Nat.add_div_right _ hL]; congr 1; omega
      have e2 : j % L = (j - L) % L := by
        rw [← Nat.add_mod_right (j - L) L]; congr 1; omega
      rw [e1, e2, List.getElem?_cons_succ]
theorem flatten_len {α : Type} {L : Nat} : ∀ (rows : List (List α)), (∀ r ∈ rows, r.length = L) → rows.flatten.length = rows.length * L
  | [], _ => by simp
  | r :: rows, h => by
    rw [List.flatten_cons, List.length_append, flatten_len rows (fun x hx => h x (List.mem_cons_of_mem _ hx)), h r (List.mem_cons_self ..), List.length_cons, Nat.add_mul]
    omega
end
end Go.Ox
namespace Go.Ox
open Go.RowKit Go.Proofs Go.Sort
/-- only draws and new blocks -/
def GrownW (w w' : World) : Prop := ∃ q os, w' = grow (w.drewN q) os
theorem GrownW.refl (w : World) : GrownW w w := ⟨0, #[], by rw [grow_empty]; rfl⟩
theorem GrownW.trans {a b c : World} (h : GrownW a b) (k : GrownW b c) : GrownW a c := by
  obtain ⟨q, os, rfl⟩ := h
  obtain ⟨p, os', rfl⟩ := k
  refine ⟨q + p, os ++ os', ?_⟩
  unfold grow World.drewN
  simp [Nat.add_assoc, Array.append_assoc]
theorem GrownW.alloc {a b : World} (h : GrownW a b) (o : Obj) : GrownW a (b.alloc o) := h.trans ⟨0, #[o], by rw [alloc_eq_grow]; rfl⟩
theorem GrownW.drew {a b : World} (h : GrownW a b) : GrownW a b.drew := h.trans ⟨1, #[], by rw [grow_empty]; rfl⟩
theorem GrownW.ext {a b : World} (h : GrownW a b) : Ext a b := by
  obtain ⟨q, os, rfl⟩ := h
  refine ⟨rfl, rfl, rfl, by simp [grow, World.drewN], fun k hk => ?_⟩
  show (a.heap ++ os)[k]? = a.heap[k]?
  rw [Array.getElem?_append_left hk]
section
variable {α : Type} [Inhabited α] {enc : α → List Value} {k : Nat}
omit [Inhabited α] in
theorem flatE_len (hk : ∀ x, (enc x).length = k) : ∀ (l : List α), (l.flatMap enc).length = l.length * k
  | [] => by simp
  | a :: l => by rw [List.flatMap_cons, List.length_append, hk, flatE_len hk l, List.length_cons, Nat.add_mul]; omega
theorem flatE_at (hk : ∀ x, (enc x).length = k) (h0 : 0 < k) : ∀ (l : List α) (t : Nat), t < l.length * k → (l.flatMap enc)[t]? = some ((enc l[t / k]!)[t % k]!)
  | [], t, h => by simp at h
  | a :: l, t, h => by
    rw [List.flatMap_cons]
    by_cases ht : t < k
    · rw [List.getElem?_append_left (by rw [hk]; exact ht), Nat.div_eq_of_lt ht, Nat.mod_eq_of_lt ht, List.getElem?_eq_getElem (by rw [hk]; exact ht)]
      simp only [List.getElem!_cons_zero]
      rw [getElem!_pos (enc a) t (by rw [hk]; exact ht)]
    · have e1 : t / k = (t - k) / k + 1 := by rw [← Nat.add_div_right _ h0]; congr 1; omega
      have e2 : t % k = (t - k) % k := by rw [← Nat.add_mod_right (t - k) k]; congr 1; omega
      rw [List.getElem?_append_right (by rw [hk]; omega), hk, flatE_at hk h0 l (t - k) (by rw [List.length_cons, Nat.add_mul] at h; omega), e1, e2, List.getElem!_cons_succ]
theorem flatK_list (hk : ∀ x, (enc x).length = k) (h0 : 0 < k) (d : Array α) : (flatK enc k d).toList = d.toList.flatMap enc := by
  apply List.ext_getElem?
  intro t
  by_cases ht : t < d.size * k
  · rw [flatE_at hk h0 _ _ (by simpa using ht)]
    have h1 := get_flatK enc k d t ht
    rw [getElem!_pos (flatK enc k d) t (by simpa using ht)] at h1
    rw [List.getElem?_eq_getElem (by simpa using ht)]
    simp only [Array.getElem_toList]
    rw [h1]
    congr 2
    have hi : t / k < d.size := Nat.div_lt_of_lt_mul (by rw [Nat.mul_comm]; exact ht)
    rw [getElem!_pos d _ hi, getElem!_pos d.toList _ (by simpa using hi)]
    simp
  · rw [List.getElem?_eq_none (by simpa using ht), List.getElem?_eq_none (by rw [flatE_len hk]; simpa using ht)]
/-- what is owned is held -/
theorem holdsK_of_own (hk : ∀ x, (enc x).length = k) (h0 : 0 < k) {w : World} {base E g n cap : Nat} {l : List α} (h : w.ownsRow base E k (.slice (some ⟨g, 0, none⟩) n cap) n (l.flatMap enc)) : HoldsK enc k w g 0 l.toArray := by
  have hl : l.length = n := by
    have := h.1
    rw [flatE_len hk] at this
    exact Nat.eq_of_mul_eq_mul_right h0 this
  rcases h.2 with ⟨h, _⟩ | ⟨g', cap', cur, he, hb, hh, hnc, hcm, hcs, ht⟩
  · cases h
  · injection he with e1 e2 e3
    injection e1 with e1
    injection e1 with e1
    subst e1
    intro j hj
    have hj' : j < (l.flatMap enc).length := by rw [flatE_len hk]; simpa using hj
    have hx : (l.flatMap enc)[j]? = cur[j]? := by
      rw [← ht, List.getElem?_take, if_pos (by rw [h.1] at hj'; exact hj')]
      simp
    refine ⟨?_, by simp [World.frozen?, hh]⟩
    simp only [World.cell?, hh, Nat.zero_add]
    have h1 : (flatK enc k l.toArray)[j]! = (l.flatMap enc)[j]'hj' := by
      rw [getElem!_pos _ j hj, ← Array.getElem_toList]
      have := flatK_list hk h0 l.toArray
      simp only [this]
    rw [h1, id]
    rw [List.getElem?_eq_getElem hj'] at hx
    simpa using hx.symm
theorem own_sorted (hk : ∀ x, (enc x).length = k) (h0 : 0 < k) {w w' : World} {base E g n cap m : Nat} {l : List α} {d' : Array α} {os : Array Obj} (h : w.ownsRow base E k (.slice (some ⟨g, 0, none⟩) n cap) n (l.flatMap enc)) (hs : d'.size = n)
    (hw : w' = sortWorldK enc k w g 0 m d' os) : w'.ownsRow base E k (.slice (some ⟨g, 0, none⟩) n cap) n (d'.toList.flatMap enc) ∧ w.grownBy w' (some g) := by
  have hg := (h.lt g rfl).2
  refine ⟨⟨by rw [flatE_len hk]; simp [hs], ?_⟩, ?_⟩
  · rcases h.2 with ⟨h, _⟩ | ⟨g', cap', cur, he, hb, hh, hnc, hcm, hcs, ht⟩
    · cases h
    · injection he with e1 e2 e3
      injection e1 with e1
      injection e1 with e1
      subst e1 e3
      refine .inr ⟨g, cap, putCells id 0 (flatK enc k d') cur, rfl, hb, ?_, hnc, hcm, by simp [putCells, hcs], ?_⟩
      · rw [hw]
        show ((Go.Sort.ahead w m).heap.modify g (onCells (putCells id 0 (flatK enc k d'))) ++ os)[g]? = _
        rw [Array.getElem?_append_left (by simpa using hg), Array.getElem?_modify, if_pos rfl]
        show Option.map _ (w.heap[g]?) = _
        rw [hh]
        rfl
      · rw [← flatK_list hk h0]
        apply List.ext_getElem?
        intro t
        have hsz : n * k ≤ cur.size := by rw [hcs]; exact Nat.mul_le_mul_right _ hnc
        by_cases ht' : t < n * k
        · rw [List.getElem?_take, if_pos ht']
          have h1 : t < (flatK enc k d').size := by simpa [hs] using ht'
          simp only [putCells, Array.getElem?_toList, Array.getElem?_mapIdx]
          rw [Array.getElem?_eq_getElem (by omega)]
          simp only [Option.map_some, Nat.zero_le, true_and, Nat.zero_add]
          rw [if_pos h1, Nat.sub_zero, id, getElem!_pos _ t h1, Array.getElem?_eq_getElem h1]
        · rw [List.getElem?_take, if_neg ht', List.getElem?_eq_none (by simpa [hs] using ht')]
  · rw [hw]
    refine ⟨rfl, rfl, rfl, ?_, fun j hj hne => ?_⟩
    · simp [sortWorldK, grow, putRowK]
    · show ((Go.Sort.ahead w m).heap.modify g _ ++ os)[j]? = _
      rw [Array.getElem?_append_left (by simpa using hj), Array.getElem?_modify, if_neg (fun e => hne (by rw [e]))]
      rfl
/-- the whole row permuted, in order -/
theorem perm_of {d d' : Array α} (h : PermIn 0 d.size d d') : d'.toList.Perm d.toList := by
  obtain ⟨hs, _, hp⟩ := h
  rw [Array.extract_eq_self_of_le (by omega), Array.extract_eq_self_of_le (Nat.le_refl _)] at hp
  exact hp
theorem sorted_of {lt : α → α → Bool} {d : Array α} {n : Nat} (h : SortedIn lt 0 n d) (hn : d.size = n) : d.toList.Pairwise fun a b => lt b a = false := by
  rw [List.pairwise_iff_getElem]
  intro i j hi hj hij
  have := h i j (Nat.zero_le _) hij (by simpa [hn] using hj)
  rw [getElem!_pos d i (by simpa using hi), getElem!_pos d j (by simpa using hj)] at this
  simpa using this
end
end Go.Ox
