/-
  Open, Flat, packed: what the claim needs of them.
-/
import Derived.Test.YtcacicgkebcdkaaPs02
import Derived.ProofKit
import Derived.OpenShut
import Derived.ShutString
import Derived.Below
import Derived.Deep.Slices
namespace Go.Ox
open Go.ChangeShapes Go.WideShapes Go.ChangeAt Go.RowKit
section
variable {H : Type} {enc : TypeId × Value → H} {P : Program} {t e : TypeId} {W : World}
theorem lt_of_trod {v : Value} {d : DataW H} {p : List MemPlace} {base : Nat} {sp : Nat → Bool} {held : Bool} (h : DataW.Trod enc P W base sp held t v d p) : ∀ x ∈ p, x.block < W.heap.size := by
  obtain ⟨m, hm⟩ := h
  exact DataW.trod_lt m _ _ _ hm
end
end Go.Ox
namespace Go.Ox
open Go.ChangeShapes Go.WideShapes Go.ChangeAt Go.RowKit Go.Deep
inductive Leaf
  | int (k : IntKind)
  | bool
def Leaf.ok : Leaf → Value → Prop
  | .int k, v => ∃ n, v = .int k n ∧ (Lit.int k n).wf = true
  | .bool, v => ∃ b, v = .bool b
def rowOk : List Leaf → List Value → Prop
  | [], [] => True
  | k :: ks, c :: cs => k.ok c ∧ rowOk ks cs
  | _, _ => False
theorem rowOk_append : ∀ {ks ks' : List Leaf} {cs cs' : List Value}, rowOk ks cs → rowOk ks' cs' → rowOk (ks ++ ks') (cs ++ cs')
  | [], _, [], _, _, h => h
  | [], _, _ :: _, _, h, _ => h.elim
  | _ :: _, _, [], _, h, _ => h.elim
  | _ :: _, _, _ :: _, _, h, k => ⟨h.1, rowOk_append h.2 k⟩
theorem rowOk_int {k : IntKind} {ks : List Leaf} : ∀ {cs : List Value}, rowOk (.int k :: ks) cs → ∃ n cs', cs = .int k n :: cs' ∧ (Lit.int k n).wf = true ∧ rowOk ks cs'
  | [], h => h.elim
  | c :: cs, h => by
    obtain ⟨⟨n, rfl, hw⟩, h2⟩ := h
    exact ⟨n, cs, rfl, hw, h2⟩
theorem rowOk_nil : ∀ {cs : List Value}, rowOk [] cs → cs = []
  | [], _ => rfl
  | _ :: _, h => h.elim
/-- the leaves of fields, one behind the other -/
def flatF (P : Program) (fl : TypeId → Option (List Leaf)) : List Field → Nat → Option (List Leaf)
  | [], _ => some []
  | f :: fs, off =>
    if f.offset = off then
      match fl f.type with
      | some ks => if P.cellsOf f.type = ks.length then
          match flatF P fl fs (off + ks.length) with
          | some rs => some (ks ++ rs)
          | none => none
        else none
      | none => none
    else none
/-- the leaves of a type that has no others, in the order of its cells -/
def flat (P : Program) : Nat → TypeId → Option (List Leaf)
  | 0, _ => none
  | n + 1, t =>
    match P.underlying t with
    | some (.int k) => some [.int k]
    | some .bool => some [.bool]
    | some (.struct fs) => match flatF P (flat P n) fs.toList 0 with
      | some ks => if P.cellsOf t = ks.length then some ks else none
      | none => none
    | _ => none
section
variable {H : Type} {enc : TypeId × Value → H} {P : Program} {W : World} {base : Nat} {sp : Nat → Bool} {held : Bool}
theorem flat_go {n : Nat} (ih : ∀ t ks fuel cs x, flat P n t = some ks → DataW.trod enc P W base sp held fuel t cs = some x → rowOk ks cs) {m : Nat} {cs : List Value} :
    ∀ (fs : List Field) (off : Nat) (ks : List Leaf), flatF P (flat P n) fs off = some ks → (∀ f ∈ fs, ∃ x, DataW.trod enc P W base sp held m f.type ((cs.drop f.offset).take (P.cellsOf f.type)) = some x) → off + ks.length ≤ cs.length →
      rowOk ks ((cs.drop off).take ks.length)
  | [], off, ks, h, _, _ => by
    simp [flatF] at h; subst h
    simp [rowOk]
  | f :: fs, off, ks, h, hx, hl => by
    unfold flatF at h
    split at h
    · rename_i ho
      split at h
      · rename_i k1 h1
        split at h
        · rename_i hc
          split at h
          · rename_i rs h2
            injection h with h; subst h
            obtain ⟨x, hx1⟩ := hx f (List.mem_cons_self ..)
            have r1 := ih _ _ _ _ _ h1 hx1
            rw [List.length_append] at hl
            have r2 := flat_go ih (m := m) (cs := cs) fs _ _ h2 (fun g hg => hx g (List.mem_cons_of_mem _ hg)) (by omega)
            rw [ho, hc] at r1
            rw [List.length_append, List.take_add, List.drop_drop]
            exact rowOk_append r1 r2
          · cases h
        · cases h
      · cases h
    · cases h
theorem flat_trod : ∀ (n : Nat) (t : TypeId) (ks : List Leaf) (fuel : Nat) (cs : List Value) (x : DataW H × List MemPlace), flat P n t = some ks → DataW.trod enc P W base sp held fuel t cs = some x → rowOk ks cs
  | 0, _, _, _, _, _, h, _ => by unfold flat at h; cases h
  | n + 1, t, ks, fuel, cs, x, h, hx => by
    unfold flat at h
    split at h
    · rename_i k hu
      injection h with h; subst h
      obtain ⟨z, rfl, _, hw⟩ := DataW.trod_int hu hx
      exact ⟨⟨z, rfl, hw⟩, trivial⟩
    · rename_i hu
      injection h with h; subst h
      obtain ⟨b, rfl, _⟩ := DataW.trod_bool hu hx
      exact ⟨⟨b, rfl⟩, trivial⟩
    · rename_i fs hu
      split at h
      · rename_i k1 h1
        split at h
        · rename_i hc
          injection h with h; subst h
          obtain ⟨xs, m, _, _, hl, hlen, hf⟩ := DataW.trod_struct hu hx
          have := flat_go (cs := cs) (m := m) (flat_trod n) fs.toList 0 k1 h1 (fun f hf' => by
            obtain ⟨i, hi, hif⟩ := List.getElem_of_mem hf'
            have h3 := hf i f (by simp at hi; rw [Array.getElem?_eq_getElem (by simpa using hi)]; simpa using hif)
            have h4 : i < xs.length := by simp at hi; omega
            rw [List.getElem?_eq_getElem h4] at h3
            exact ⟨_, h3⟩) (by omega)
          rw [List.drop_zero, ← hc, ← hl, List.take_length] at this
          exact this
        · cases h
      · cases h
    · cases h
/-- a struct that came in -/
theorem struct_of_trod {n : Nat} {t : TypeId} {ks : List Leaf} {fs : Array Field} (hf : flat P n t = some ks) (hu : P.underlying t = some (.struct fs)) {v : Value} {d : DataW H} {p : List MemPlace} {r : Reach} {b0 : Nat}
    (hv : Value.okWide P W r b0 t v) (h : DataW.Trod enc P W base sp held t v d p) : ∃ cs : List Value, v = .agg cs.toArray ∧ rowOk ks cs := by
  obtain ⟨cs, rfl, hsz⟩ := okWide_struct hu hv
  obtain ⟨fuel, hf'⟩ := h
  refine ⟨cs.toList, by simp, ?_⟩
  have := flat_trod _ _ _ _ _ _ hf hf'
  simpa [Value.cells] using this
theorem flatten_at {α : Type} {L : Nat} (hL : 0 < L) : ∀ (rows : List (List α)), (∀ r ∈ rows, r.length = L) → ∀ j, rows.flatten[j]? = (rows[j / L]?).bind fun r => r[j % L]?
  | [], _, j => by simp
  | r :: rows, h, j => by
    have hr := h r (List.mem_cons_self ..)
    rw [List.flatten_cons]
    by_cases hj : j < L
    · rw [List.getElem?_append_left (by omega), Nat.div_eq_of_lt hj, Nat.mod_eq_of_lt hj]
      simp
    · rw [List.getElem?_append_right (by omega), hr, flatten_at hL rows (fun x hx => h x (List.mem_cons_of_mem _ hx))]
      have e1 : j / L = (j - L) / L + 1 := by
        rw [← Nat.add_div_right _ hL]; congr 1; omega
      have e2 : j % L = (j - L) % L := by
        rw [← Nat.add_mod_right (j - L) L]; congr 1; omega
      rw [e1, e2, List.getElem?_cons_succ]
theorem flatten_len {α : Type} {L : Nat} : ∀ (rows : List (List α)), (∀ r ∈ rows, r.length = L) → rows.flatten.length = rows.length * L
  | [], _ => by simp
  | r :: rows, h => by
    rw [List.flatten_cons, List.length_append, flatten_len rows (fun x hx => h x (List.mem_cons_of_mem _ hx)), h r (List.mem_cons_self ..), List.length_cons, Nat.add_mul]
    omega
end
end Go.Ox
