/-
  Tree, GrMath, Gr, GrFn, packed: what the claim needs of them.
-/
import Derived.Test.YtpmgmiiidfconaaGreatDoorPz03
import Derived.Test.YtpmgmiiidfconaaGreatDoorPz05
import Derived.Test.YtpmgmiiidfconaaGreatDoorPz02
import Derived.Test.YtpmgmiiidfconaaGreatDoorChecked
import Derived.WalkKit
import Derived.WalkSpells
import Derived.WalkLawsBesides
import Derived.StillTailTactics
import Derived.IntWalk
import Derived.Deep.DeepCutAuto
namespace Go.Ox
open Go.ChangeShapes Go.WideShapes Go.ChangeAt Go.RowKit Go.Deep
set_option linter.unusedVariables false
set_option linter.unusedSimpArgs false
section
variable {β : Type}
/-- elements of k cells each, of which Q says what they are -/
structure RS (k : Nat) (Q : World → List Value → β → Prop) (w : World) (v : Value) (ls : List β) : Prop where
  ex : ∃ rows : List (List Value), Rd w k v rows.length rows.flatten ∧ rows.length = ls.length ∧ ∀ (i : Nat) (r : List Value) (x : β), rows[i]? = some r → ls[i]? = some x → r.length = k ∧ Q w r x
variable {k : Nat} {Q : World → List Value → β → Prop} {w w' : World} {v : Value} {ls : List β}
theorem RS.ext (h : RS k Q w v ls) (hq : ∀ r x, x ∈ ls → Q w r x → Q w' r x) (he : Ext w w') : RS k Q w' v ls := by
  obtain ⟨rows, h1, h2, h3⟩ := h.ex
  exact ⟨rows, Rd.ext h1 he, h2, fun i r x hr hx => ⟨(h3 i r x hr hx).1, hq r x (List.mem_of_getElem? hx) (h3 i r x hr hx).2⟩⟩
theorem RS.extNew {K : Nat → Prop} (h : RS k Q w v ls) (hk : 0 < k) (hq : ∀ r x, x ∈ ls → Q w r x → Q w' r x) (he : ExtQ K w w') (hK : ∀ j, K j → w.heap.size ≤ j) : RS k Q w' v ls := by
  obtain ⟨rows, h1, h2, h3⟩ := h.ex
  exact ⟨rows, Rd.extNew h1 hk he hK, h2, fun i r x hr hx => ⟨(h3 i r x hr hx).1, hq r x (List.mem_of_getElem? hx) (h3 i r x hr hx).2⟩⟩
theorem RS.form (h : RS k Q w v ls) : ∃ A c, v = .slice A ls.length c := by
  obtain ⟨rows, h1, h2, h3⟩ := h.ex
  obtain ⟨A, c, rfl, -⟩ := h1
  exact ⟨A, c, by rw [h2]⟩
theorem RS.nil (k : Nat) (Q : World → List Value → β → Prop) (w : World) : RS k Q w (.slice none 0 0) [] := ⟨[], Rd.nil _ _, rfl, fun i r x hr => by simp at hr⟩
theorem flat_atK {L : Nat} {i j : Nat} (rows : List (List Value)) (h : ∀ r ∈ rows, r.length = L) (hj : j < L) {r : List Value} (hr : rows[i]? = some r) : rows.flatten[i * L + j]? = r[j]? := by
  rw [flatten_at (by omega) rows h, Nat.mul_comm, Nat.mul_add_div (by omega), Nat.div_eq_of_lt hj, Nat.mul_add_mod, Nat.mod_eq_of_lt hj]
  simp [hr]
theorem RS.at_ {A : Option Addr} {n c : Nat} (h : RS k Q w (.slice A n c) ls) (hk : 0 < k) {i : Nat} (hi : i < ls.length) :
    ∃ b o r, A = some ⟨b, o, none⟩ ∧ r.length = k ∧ Q w r ls[i] ∧ ∀ j u, r[j]? = some u → w.cell? ⟨b, o + i * k + j, none⟩ = some u := by
  obtain ⟨rows, h1, h2, h3⟩ := h.ex
  obtain ⟨r, hr⟩ : ∃ r, rows[i]? = some r := ⟨rows[i]'(by omega), List.getElem?_eq_getElem (by omega)⟩
  obtain ⟨q1, q2⟩ := h3 i r ls[i] hr (List.getElem?_eq_getElem hi)
  have hall : ∀ r ∈ rows, r.length = k := by
    intro r hr
    obtain ⟨j, hj, rfl⟩ := List.getElem_of_mem hr
    exact (h3 j _ (ls[j]'(by omega)) (List.getElem?_eq_getElem hj) (List.getElem?_eq_getElem (by omega))).1
  obtain ⟨A', c', hv, hx⟩ := h1
  injection hv with v1 v2 v3
  subst v1; subst v3
  rcases A with _ | ⟨b, o, s⟩
  · have := hx.nil rfl; have := hx.nc; omega
  · have hs : s = none := (hx.at_ _ rfl (i * k + 0) r[0] (by rw [flat_atK rows hall hk hr]; exact List.getElem?_eq_getElem (by omega))).1
    subst hs
    refine ⟨b, o, r, rfl, q1, q2, fun j u hu => ?_⟩
    have hj : j < k := by
      rcases Nat.lt_or_ge j r.length with q | q
      · omega
      · rw [List.getElem?_eq_none q] at hu; cases hu
    have := (hx.at_ _ rfl (i * k + j) u (by rw [flat_atK rows hall hj hr]; exact hu)).2
    rw [Nat.add_assoc]; exact this
end
inductive LeafT
  | int (k : IntKind)
  | bool
  | cell (t : TypeId)
def LeafT.ok (R : TypeId → Value → Prop) : LeafT → Value → Prop
  | .int k, v => ∃ n, v = .int k n ∧ (Lit.int k n).wf = true
  | .bool, v => ∃ b, v = .bool b
  | .cell t, v => R t v
def rowT (R : TypeId → Value → Prop) : List LeafT → List Value → Prop
  | [], [] => True
  | k :: ks, c :: cs => k.ok R c ∧ rowT R ks cs
  | _, _ => False
section
variable {R : TypeId → Value → Prop}
theorem rowT_len : ∀ {ks : List LeafT} {cs : List Value}, rowT R ks cs → cs.length = ks.length
  | [], [], _ => rfl
  | [], _ :: _, h => h.elim
  | _ :: _, [], h => h.elim
  | _ :: ks, _ :: cs, h => by simp [rowT_len h.2]
theorem rowT_append : ∀ {ks ks' : List LeafT} {cs cs' : List Value}, rowT R ks cs → rowT R ks' cs' → rowT R (ks ++ ks') (cs ++ cs')
  | [], _, [], _, _, h => h
  | [], _, _ :: _, _, h, _ => h.elim
  | _ :: _, _, [], _, h, _ => h.elim
  | _ :: _, _, _ :: _, _, h, k => ⟨h.1, rowT_append h.2 k⟩
theorem rowT_int {k : IntKind} {ks : List LeafT} : ∀ {cs : List Value}, rowT R (.int k :: ks) cs → ∃ n cs', cs = .int k n :: cs' ∧ (Lit.int k n).wf = true ∧ rowT R ks cs'
  | [], h => h.elim
  | c :: cs, h => by
    obtain ⟨⟨n, rfl, hw⟩, h2⟩ := h
    exact ⟨n, cs, rfl, hw, h2⟩
theorem rowT_cell {t : TypeId} {ks : List LeafT} : ∀ {cs : List Value}, rowT R (.cell t :: ks) cs → ∃ u cs', cs = u :: cs' ∧ R t u ∧ rowT R ks cs'
  | [], h => h.elim
  | c :: cs, h => ⟨c, cs, rfl, h.1, h.2⟩
theorem rowT_nil : ∀ {cs : List Value}, rowT R [] cs → cs = []
  | [], _ => rfl
  | _ :: _, h => h.elim
end
def flatFT (P : Program) (fl : TypeId → Option (List LeafT)) : List Field → Nat → Option (List LeafT)
  | [], _ => some []
  | f :: fs, off =>
    if f.offset = off then
      match fl f.type with
      | some ks => if P.cellsOf f.type = ks.length then
          match flatFT P fl fs (off + ks.length) with
          | some rs => some (ks ++ rs)
          | none => none
        else none
      | none => none
    else none
/-- the leaves of a type, slices among them, in the order of its cells -/
def flatT (P : Program) : Nat → TypeId → Option (List LeafT)
  | 0, _ => none
  | n + 1, t =>
    match P.underlying t with
    | some (.int k) => some [.int k]
    | some .bool => some [.bool]
    | some (.slice _) => some [.cell t]
    | some (.struct fs) => match flatFT P (flatT P n) fs.toList 0 with
      | some ks => if P.cellsOf t = ks.length then some ks else none
      | none => none
    | _ => none
section
variable {H : Type} {enc : TypeId × Value → H} {P : Program} {W : World} {base : Nat} {sp : Nat → Bool} {held : Bool}
/-- a cell that was read, with less fuel -/
def Was (enc : TypeId × Value → H) (P : Program) (W : World) (base : Nat) (sp : Nat → Bool) (held : Bool) (N : Nat) (t : TypeId) (u : Value) : Prop := ∃ fuel y, fuel ≤ N ∧ DataW.trod enc P W base sp held fuel t [u] = some y
theorem flatT_go {n N : Nat} (ih : ∀ t ks fuel cs x, fuel ≤ N → flatT P n t = some ks → DataW.trod enc P W base sp held fuel t cs = some x → rowT (Was enc P W base sp held N) ks cs) {m : Nat} (hm : m ≤ N) {cs : List Value} :
    ∀ (fs : List Field) (off : Nat) (ks : List LeafT), flatFT P (flatT P n) fs off = some ks → (∀ f ∈ fs, ∃ x, DataW.trod enc P W base sp held m f.type ((cs.drop f.offset).take (P.cellsOf f.type)) = some x) → off + ks.length ≤ cs.length →
      rowT (Was enc P W base sp held N) ks ((cs.drop off).take ks.length)
  | [], off, ks, h, _, _ => by
    simp [flatFT] at h; subst h
    simp [rowT]
  | f :: fs, off, ks, h, hx, hl => by
    unfold flatFT at h
    split at h
    · rename_i ho
      split at h
      · rename_i k1 h1
        split at h
        · rename_i hc
          split at h
          · rename_i rs h2
            injection h with h; subst h
            obtain ⟨x, hx1⟩ := hx f (List.mem_cons_self ..)
            have r1 := ih _ _ _ _ _ hm h1 hx1
            rw [List.length_append] at hl
            have r2 := flatT_go ih hm (cs := cs) fs _ _ h2 (fun g hg => hx g (List.mem_cons_of_mem _ hg)) (by omega)
            rw [ho, hc] at r1
            rw [List.length_append, List.take_add, List.drop_drop]
            exact rowT_append r1 r2
          · cases h
        · cases h
      · cases h
    · cases h
theorem flatT_trod {N : Nat} : ∀ (n : Nat) (t : TypeId) (ks : List LeafT) (fuel : Nat) (cs : List Value) (x : DataW H × List MemPlace), fuel ≤ N → flatT P n t = some ks → DataW.trod enc P W base sp held fuel t cs = some x → rowT (Was enc P W base sp held N) ks cs
  | 0, _, _, _, _, _, _, h, _ => by unfold flatT at h; cases h
  | n + 1, t, ks, fuel, cs, x, hN, h, hx => by
    unfold flatT at h
    split at h
    · rename_i k hu
      injection h with h; subst h
      obtain ⟨z, rfl, _, hw⟩ := DataW.trod_int hu hx
      exact ⟨⟨z, rfl, hw⟩, trivial⟩
    · rename_i hu
      injection h with h; subst h
      obtain ⟨b, rfl, _⟩ := DataW.trod_bool hu hx
      exact ⟨⟨b, rfl⟩, trivial⟩
    · rename_i e hu
      injection h with h; subst h
      rcases open_slice hu hx with ⟨rfl, _⟩ | ⟨a, len, cap, m, k, D, Pl, rfl, _⟩ <;> exact ⟨⟨fuel, x, hN, hx⟩, trivial⟩
    · rename_i fs hu
      split at h
      · rename_i k1 h1
        split at h
        · rename_i hc
          injection h with h; subst h
          obtain ⟨xs, m, hfu, _, hl, hlen, hf⟩ := DataW.trod_struct hu hx
          have := flatT_go (cs := cs) (m := m) (N := N) (flatT_trod n) (by omega) fs.toList 0 k1 h1 (fun f hf' => by
            obtain ⟨i, hi, hif⟩ := List.getElem_of_mem hf'
            have h3 := hf i f (by simp at hi; rw [Array.getElem?_eq_getElem (by simpa using hi)]; simpa using hif)
            have h4 : i < xs.length := by simp at hi; omega
            rw [List.getElem?_eq_getElem h4] at h3
            exact ⟨_, h3⟩) (by omega)
          rw [List.drop_zero, ← hc, ← hl, List.take_length] at this
          exact this
        · cases h
      · cases h
    · cases h
/-- a struct that came in -/
theorem struct_of_trodT {n : Nat} {t : TypeId} {ks : List LeafT} {fs : Array Field} (hf : flatT P n t = some ks) (hu : P.underlying t = some (.struct fs)) {v : Value} {d : DataW H} {p : List MemPlace} {r : Reach} {b0 : Nat}
    (hv : Value.okWide P W r b0 t v) (h : DataW.Trod enc P W base sp held t v d p) : ∃ (cs : List Value) (N : Nat), v = .agg cs.toArray ∧ rowT (Was enc P W base sp held N) ks cs := by
  obtain ⟨cs, rfl, hsz⟩ := okWide_struct hu hv
  obtain ⟨fuel, hf'⟩ := h
  refine ⟨cs.toList, fuel, by simp, ?_⟩
  have := flatT_trod _ _ _ _ _ _ (Nat.le_refl _) hf hf'
  simpa [Value.cells] using this
/-- a cell that is a slice of structs: its rows, read with less fuel -/
theorem Was.rows {n N : Nat} {t e : TypeId} {ks : List LeafT} (ht : P.underlying t = some (.slice e)) (hf : flatT P n e = some ks) (hc : P.cellsOf e = ks.length) (hk0 : 0 < ks.length) {u : Value}
    (hx : Was enc P W base sp held N t u) :
    ∃ rows : List (List Value), Rd W ks.length u rows.length rows.flatten ∧ (rows = [] ∨ 0 < N) ∧ ∀ x ∈ rows, rowT (Was enc P W base sp held (N - 1)) ks x := by
  obtain ⟨fuel, y, hN, hx⟩ := hx
  rcases DataW.trod_slice ht hx with ⟨hcs, _⟩ | ⟨x, len, cap, elems, rest, k, hfu, hcs, _, _, hl, hm, hlen, hcell, _, _⟩
  · injection hcs with hcs
    subst hcs
    exact ⟨[], Rd.nil _ _, .inl rfl, by simp⟩
  · injection hcs with hcs
    subst hcs
    have each0 : ∀ i, i < len → ∃ cs' y, W.cells? base (x.add (i * P.cellsOf e)) (P.cellsOf e) = some cs' ∧ DataW.trod enc P W base sp held k e cs' = some y := by
      intro i hi
      have h1 := hcell i hi
      rw [List.getElem?_eq_getElem (by omega), Option.bind_eq_some_iff] at h1
      obtain ⟨cs', q1, q2⟩ := h1
      exact ⟨cs', _, q1, q2⟩
    have hspot : 0 < len → x.spot = none := by
      intro h0
      obtain ⟨cs', _, h1, _⟩ := each0 0 h0
      rw [hc] at h1
      obtain ⟨_, hlen, hce⟩ := World.cells?_some h1
      have h3 := hce 0 hk0
      rw [List.getElem?_eq_getElem (by omega)] at h3
      have := World.cell?_spot h3
      simpa [Addr.add] using this
    have each : ∀ i, i < len → ∃ cs' : List Value, rowT (Was enc P W base sp held (N - 1)) ks cs' ∧ x.spot = none ∧ ∀ j u, cs'[j]? = some u → W.cell? ⟨x.block, x.off + (i * ks.length + j), none⟩ = some u := by
      intro i hi
      obtain ⟨cs', _, h1, h2⟩ := each0 i hi
      rw [hc] at h1
      obtain ⟨_, hlen, hce⟩ := World.cells?_some h1
      have hrow := flatT_trod (N := N - 1) _ _ _ _ _ _ (by omega) hf h2
      have hs0 := hspot (by omega)
      refine ⟨cs', hrow, hs0, fun j u hu => ?_⟩
      have hj : j < cs'.length := by
        rcases Nat.lt_or_ge j cs'.length with h | h
        · exact h
        · rw [List.getElem?_eq_none h] at hu; cases hu
      have h3 := hce j (by omega)
      rw [hu] at h3
      obtain ⟨b, o, s⟩ := x
      simp only at hs0; subst hs0
      rw [← h3]
      unfold Addr.add
      repeat' split
      all_goals first | rfl | (simp_all [Nat.add_assoc])
    obtain ⟨q, hq⟩ := choose_lt each
    have hrl : ∀ r ∈ (List.range len).map q, r.length = ks.length := by
      intro r hr
      obtain ⟨i, hi, rfl⟩ := List.mem_map.1 hr
      exact rowT_len (hq i (List.mem_range.1 hi)).1
    refine ⟨(List.range len).map q, ⟨some x, cap, by simp, ?_, by simpa using hl, hm, (fun h => by cases h), fun ad ha j u' hu => ?_⟩, .inr (by omega), ?_⟩
    · rw [flatten_len _ hrl]
    · injection ha with ha; subst ha
      rw [flatten_at hk0 _ hrl, Option.bind_eq_some_iff] at hu
      obtain ⟨r, h1, h2⟩ := hu
      rw [List.getElem?_map, Option.map_eq_some_iff] at h1
      obtain ⟨i, h3, rfl⟩ := h1
      have hi : j / ks.length < len := by
        rcases Nat.lt_or_ge (j / ks.length) len with h | h
        · exact h
        · rw [List.getElem?_eq_none (by simpa using h)] at h3; cases h3
      rw [List.getElem?_range hi] at h3
      injection h3 with h3; subst h3
      obtain ⟨_, hs, hcell'⟩ := hq _ hi
      refine ⟨hs, ?_⟩
      have := hcell' _ _ h2
      have e : j / ks.length * ks.length + j % ks.length = j := by rw [Nat.mul_comm]; exact Nat.div_add_mod j _
      rwa [e] at this
    · intro r hr
      obtain ⟨i, hi, rfl⟩ := List.mem_map.1 hr
      exact (hq i (List.mem_range.1 hi)).1
end
end Go.Ox
namespace Go.Ox
open Go.RowKit
set_option linter.unusedVariables false
set_option linter.unusedSimpArgs false
section
variable {β : Type}
/-- what may change while v is built: K0, v's own block, what is new -/
def MayK (K0 : Nat → Prop) (v : Value) (w : World) (k : Nat) : Prop := K0 k ∨ v.ownBlock = some k ∨ w.heap.size ≤ k
/-- elements of k cells each, one's own; Q says what they are, and goes on to say it while v is built -/
structure OS (K0 : Nat → Prop) (E k base : Nat) (Q : World → List Value → β → Prop) (w : World) (v : Value) (ls : List β) : Prop where
  ex : ∃ rows : List (List Value), w.ownsRow base E k v rows.length rows.flatten ∧ rows.length = ls.length ∧ ∀ (i : Nat) (r : List Value) (x : β), rows[i]? = some r → ls[i]? = some x → r.length = k ∧ ∀ W, ExtQ (MayK K0 v w) w W → Q W r x
variable {K0 : Nat → Prop} {E k base : Nat} {Q : World → List Value → β → Prop} {w w' : World} {v : Value} {ls : List β}
theorem OS.nil (K0 : Nat → Prop) (E k base : Nat) (Q : World → List Value → β → Prop) (w : World) : OS K0 E k base Q w (.slice none 0 0) [] := ⟨[], World.ownsRow_nil _ _ _ _, rfl, fun i r x hr => by simp at hr⟩
theorem OS.rs (h : OS K0 E k base Q w v ls) : RS k Q w v ls := by
  obtain ⟨rows, h1, h2, h3⟩ := h.ex
  exact ⟨rows, Rd.of_own h1, h2, fun i r x hr hx => ⟨(h3 i r x hr hx).1, (h3 i r x hr hx).2 w (ExtQ.refl _ _)⟩⟩
theorem OS.form (h : OS K0 E k base Q w v ls) : ∃ A c, v = .slice A ls.length c := h.rs.form
theorem OS.lt (h : OS K0 E k base Q w v ls) {g : Nat} (hg : v.ownBlock = some g) : base ≤ g ∧ g < w.heap.size := by
  obtain ⟨rows, h1, -⟩ := h.ex
  exact h1.lt g hg
theorem OS.extQ {K : Nat → Prop} (h : OS K0 E k base Q w v ls) (he : ExtQ K w w') (hK : ∀ j, K j → K0 j ∨ w.heap.size ≤ j) (h0 : ∀ g, v.ownBlock = some g → ¬ K0 g) : OS K0 E k base Q w' v ls := by
  obtain ⟨rows, h1, h2, h3⟩ := h.ex
  refine ⟨rows, ownsRow_extQ h1 he fun g hg q => ?_, h2, fun i r x hr hx => ⟨(h3 i r x hr hx).1, fun W hW => (h3 i r x hr hx).2 W ?_⟩⟩
  · rcases hK g q with q | q
    · exact h0 g hg q
    · have := (h1.lt g hg).2; omega
  · refine (he.mono fun j hj => (hK j hj).imp_right .inr).trans (hW.mono fun j hj => ?_)
    rcases hj with hj | hj | hj
    · exact .inl hj
    · exact .inr (.inl hj)
    · exact .inr (.inr (Nat.le_trans he.size hj))
theorem OS.ext (h : OS K0 E k base Q w v ls) (he : Ext w w') : OS K0 E k base Q w' v ls := by
  obtain ⟨rows, h1, h2, h3⟩ := h.ex
  refine ⟨rows, ownsRow_ext h1 he, h2, fun i r x hr hx => ⟨(h3 i r x hr hx).1, fun W hW => (h3 i r x hr hx).2 W ?_⟩⟩
  refine (ExtQ.of he).trans (hW.mono fun j hj => ?_)
  rcases hj with hj | hj | hj
  · exact .inl hj
  · exact .inr (.inl hj)
  · exact .inr (.inr (Nat.le_trans he.size hj))
/-- one more was laid behind -/
theorem OS.appd {v' : Value} {rows : List (List Value)} {r : List Value} {y : β} (h2 : rows.length = ls.length)
    (h3 : ∀ (i : Nat) (r : List Value) (x : β), rows[i]? = some r → ls[i]? = some x → r.length = k ∧ ∀ W, ExtQ (MayK K0 v w) w W → Q W r x)
    (ha : Appended w w' base E k v v' rows.length 1 rows.flatten r) (hrk : r.length = k) (hq : ∀ W, ExtQ (MayK K0 v w) w W → Q W r y) : OS K0 E k base Q w' v' (ls ++ [y]) := by
  refine ⟨rows ++ [r], ?_, by simp [h2], fun i r' x' hr' hx' => ?_⟩
  · rw [List.length_append, List.flatten_append, List.flatten_singleton]
    exact ha.own
  · have step : ∀ W, ExtQ (MayK K0 v' w') w' W → ExtQ (MayK K0 v w) w W := fun W hW => by
      refine (ExtQ.grown (Q := MayK K0 v w) ha.grown fun j hj => .inr (.inl hj)).trans (hW.mono fun j hj => ?_)
      rcases hj with hj | hj | hj
      · exact .inl hj
      · rcases ha.at_ with q | q
        · exact .inr (.inl (q ▸ hj))
        · rw [q] at hj; injection hj with hj; exact .inr (.inr (by omega))
      · exact .inr (.inr (Nat.le_trans ha.grown.size hj))
    rcases Nat.lt_or_ge i rows.length with hi | hi
    · rw [List.getElem?_append_left hi] at hr'
      rw [List.getElem?_append_left (by omega)] at hx'
      exact ⟨(h3 i r' x' hr' hx').1, fun W hW => (h3 i r' x' hr' hx').2 W (step W hW)⟩
    · have hi2 : i = rows.length := by
        rcases Nat.lt_or_ge i (rows.length + 1) with q | q
        · omega
        · rw [List.getElem?_eq_none (by simp; omega)] at hr'; cases hr'
      subst hi2
      rw [List.getElem?_append_right (Nat.le_refl _), Nat.sub_self] at hr'
      rw [h2, List.getElem?_append_right (Nat.le_refl _), Nat.sub_self] at hx'
      simp at hr' hx'
      subst hr'; subst hx'
      exact ⟨hrk, fun W hW => hq W (step W hW)⟩
/-- one more, in a drawn region -/
theorem wp_appS {P : Program} {t e : TypeId} {z : Value} {bytes : Nat} {o : Oper} {a : Act} {Kx : Act → World → Prop} {Qx : Exit → Act → World → Prop} (el : Elem P t e z k bytes) (w : World) (s x : Operand)
    (ho : o.op = .call { callee := .builtin .append, args := #[s, x], argTypes := #[t, t] })
    (base : Nat) (v vx : Value) (l : List β) (hs : a.eval s = v) (hown : OS K0 e k base Q w v l) (hx : a.eval x = vx) (r : List Value) (y : β) (hr : Rd w k vx 1 r) (hr1 : ∀ u ∈ r, u.oneCell' = true) (hrk : r.length = k)
    (hq : ∀ W, ExtQ (MayK K0 v w) w W → Q W r y)
    (hb : (l.length + 1) * bytes ≤ 140737488355328) (hm : l.length + 1 ≤ maxLen) (hbase : base ≤ w.heap.size)
    (h : ∀ v' w', OS K0 e k base Q w' v' (l ++ [y]) → w.grownBy w' v.ownBlock → Kx (a.put o.dst v') w') : o.wp P a w Kx Qx := by
  obtain ⟨rows, h1, h2, h3⟩ := hown.ex
  exact wp_app el w s x ho base v rows.length rows.flatten hs h1 vx 1 r hx hr hr1 (by rw [h2]; exact hb) (by rw [h2]; exact hm) hbase fun v' w' ha => h v' w' (OS.appd h2 h3 ha hrk hq) ha.grown
end
end Go.Ox
set_option linter.unusedVariables false
namespace Go.Ox.Gr
/-- a node: what it does, its inputs, its function (kind, number), its number, its body -/
inductive Nd
  | mk (op : Int) (ins : List Int) (kind fa a : Int) (body : List Nd)
def Nd.op : Nd → Int | .mk o _ _ _ _ _ => o
def Nd.ins : Nd → List Int | .mk _ i _ _ _ _ => i
def Nd.kind : Nd → Int | .mk _ _ k _ _ _ => k
def Nd.fa : Nd → Int | .mk _ _ _ f _ _ => f
def Nd.a : Nd → Int | .mk _ _ _ _ a _ => a
def Nd.body : Nd → List Nd | .mk _ _ _ _ _ b => b
instance : Inhabited Nd := ⟨.mk 0 [] 0 0 0 []⟩
/-- a function's family: by its kind -/
def fk (k : Int) : Int := if k < 1 then 0 else if k ≤ 8 then 1 else if k ≤ 12 then 2 else if k ≤ 15 then 3 else if k ≤ 19 then 4 else if k ≤ 23 then 5 else 0
def lst (k : Int) : Int := if k = 4 ∨ k = 5 ∨ k = 6 then 1 else 0
def mst (k : Int) : Int := if k = 1 ∨ k = 2 ∨ k = 4 ∨ k = 5 ∨ k = 6 ∨ k = 7 ∨ k = 8 ∨ k = 9 ∨ k = 10 ∨ k = 11 then 1048575 else if k = 13 ∨ k = 14 then 8 else 0
/-- of a function; 0: it may not be -/
def fam (k a : Int) : Int := if a < lst k ∨ mst k < a then 0 else fk k
def arity (op : Int) : Int := if op = 2 ∨ op = 3 ∨ op = 4 ∨ op = 5 ∨ op = 7 ∨ op = 9 then 1 else if op = 6 ∨ op = 8 then 2 else 0
def fmly (op : Int) : Int := if op = 2 then 1 else if op = 3 then 2 else if op = 4 then 3 else if op = 5 then 4 else if op = 6 then 5 else 0
def opOk (op : Int) : Bool := decide (1 ≤ op) && decide (op ≤ 11)
def insOk (ins : List Int) (i : Nat) : Bool := ins.all fun x => decide (0 ≤ x) && decide (x < (i : Int))
def fnOk (n : Nd) : Bool := if fmly n.op = 0 then decide (n.kind = 0) && decide (n.fa = 0) else decide (fam n.kind n.fa = fmly n.op)
def numOk (n : Nd) (loop : Int) : Bool :=
  if n.op = 1 then decide (loop < 0) && (decide (0 ≤ n.a) && decide (n.a < 4))
  else if n.op = 9 then decide (loop < 0) && (decide (1 ≤ n.a) && decide (n.a ≤ 64))
  else if n.op = 10 then decide (0 ≤ loop) && decide (n.a = 0)
  else if n.op = 11 then decide (0 ≤ loop) && (decide (0 ≤ n.a) && decide (n.a < loop))
  else decide (n.a = 0)
def base (n : Nd) (i : Nat) : Bool := opOk n.op && (decide ((n.ins.length : Int) = arity n.op) && insOk n.ins i)
/-- each of a list, by its place -/
def each (f : Nd → Nat → Bool) : List Nd → Nat → Bool
  | [], _ => true
  | n :: l, i => f n i && each f l (i + 1)
theorem each_app (f : Nd → Nat → Bool) : ∀ (l r : List Nd) (i : Nat), each f (l ++ r) i = (each f l i && each f r (i + l.length))
  | [], r, i => by simp [each]
  | n :: l, r, i => by
    simp only [List.cons_append, each, each_app f l r (i + 1), List.length_cons, Bool.and_assoc]
    rw [show i + 1 + l.length = i + (l.length + 1) by omega]
theorem each_s (f : Nd → Nat → Bool) (l : List Nd) {k : Nat} (h : k < l.length) : each f (l.take (k + 1)) 0 = (each f (l.take k) 0 && f l[k] k) := by
  rw [List.take_succ_eq_append_getElem h, each_app]
  have : (l.take k).length = k := by rw [List.length_take]; omega
  rw [this, Nat.zero_add]
  simp [each]
theorem each_no (f : Nd → Nat → Bool) (l : List Nd) {k : Nat} (h : k < l.length) (hf : f l[k] k = false) : each f l 0 = false := by
  have e : l = l.take (k + 1) ++ l.drop (k + 1) := (List.take_append_drop ..).symm
  have h2 := each_s f l h
  rw [hf, Bool.and_false] at h2
  rw [e, each_app, h2, Bool.false_and]
/-- a node of a loop's body -/
def inOk (loop : Nat) (n : Nd) (i : Nat) : Bool := base n i && (fnOk n && (numOk n loop && n.body.isEmpty))
def bodyOk (l : List Nd) (loop : Nat) : Bool := decide (1 ≤ l.length) && (decide (l.length ≤ 32) && each (inOk loop) l 0)
/-- a node of a graph -/
def outOk (n : Nd) (i : Nat) : Bool := base n i && (fnOk n && (numOk n (-1) && (if n.op = 9 then bodyOk n.body i else n.body.isEmpty)))
def listOk (l : List Nd) : Bool := decide (1 ≤ l.length) && (decide (l.length ≤ 32) && each outOk l 0)
def loops (l : List Nd) : Nat := (l.filter fun n => decide (n.op = 9)).length
theorem loops_s (l : List Nd) {k : Nat} (h : k < l.length) : loops (l.take (k + 1)) = loops (l.take k) + (if l[k].op = 9 then 1 else 0) := by
  unfold loops
  rw [List.take_succ_eq_append_getElem h, List.filter_append, List.length_append]
  congr 1
  by_cases q : l[k].op = 9 <;> simp [q]
theorem loops_le (l : List Nd) (k : Nat) : loops (l.take k) ≤ k := Nat.le_trans (List.length_filter_le _ _) (by rw [List.length_take]; omega)
/-- a graph: its nodes, which is told -/
abbrev G := List Nd × Int
def gOk (g : G) : Bool := listOk g.1 && (decide (0 ≤ g.2) && (decide (g.2 < (g.1.length : Int)) && decide (loops g.1 ≤ 1)))
theorem fmly_range (k : Int) : 0 ≤ fmly k ∧ fmly k ≤ 5 := by unfold fmly; repeat' split <;> omega
theorem arity_range (k : Int) : 0 ≤ arity k ∧ arity k ≤ 2 := by unfold arity; repeat' split <;> omega
end Go.Ox.Gr
set_option linter.unusedVariables false
namespace Go.Ox.Gr
end Go.Ox.Gr
namespace Go.Ox
open Go.RowKit
set_option linter.unusedVariables false
set_option linter.unusedSimpArgs false
instance encInt : Enc Int where
  k := 1
  enc x := [.int .i64 x]
  len _ := rfl
  pos := by omega
  one x u hu := by simp at hu; subst hu; rfl
theorem ri1 {w : World} {A : Option Addr} {n c : Nat} {l : List Int} (h : RE w (.slice A n c) l) {k : Nat} (hk : k < l.length) :
    ∃ b o, A = some ⟨b, o, none⟩ ∧ w.cell? ⟨b, o + k, none⟩ = some (.int .i64 l[k]) := by
  obtain ⟨b, o, e, h2⟩ := h.at_ hk
  have := h2 0 _ rfl
  refine ⟨b, o, e, ?_⟩
  rw [← this]
  congr 2
  show o + k = o + k * 1 + 0
  omega
namespace Gr
/-- a node's cells; NR: what its body's slice is -/
def NdQ (NR : World → Value → List Nd → Prop) (w : World) (r : List Value) (n : Nd) : Prop :=
  ∃ u b, r = [.int .i64 n.op, u, .int .i64 n.kind, .int .i64 n.fa, .int .i64 n.a, b] ∧ RE w u n.ins ∧ NR w b n.body
/-- nodes whose bodies are at most so deep -/
def NodesR : Nat → World → Value → List Nd → Prop
  | 0 => RS 6 fun _ _ _ => False
  | d + 1 => RS 6 (NdQ (NodesR d))
section
variable {w w' : World} {v : Value} {l : List Nd} {d : Nat}
theorem NodesR.ext : ∀ {d : Nat} {v : Value} {l : List Nd}, NodesR d w v l → Ext w w' → NodesR d w' v l
  | 0, v, l, h, he => RS.ext h (fun _ _ _ q => q) he
  | d + 1, v, l, h, he => RS.ext h (fun r x _ ⟨u, b, h1, h2, h3⟩ => ⟨u, b, h1, RE.ext h2 he, NodesR.ext h3 he⟩) he
theorem NodesR.form : ∀ {d : Nat} {v : Value} {l : List Nd}, NodesR d w v l → ∃ A c, v = .slice A l.length c
  | 0, _, _, h => RS.form h
  | _ + 1, _, _, h => RS.form h
theorem NodesR.nil (d : Nat) (w : World) : NodesR d w (.slice none 0 0) [] := by
  cases d with
  | zero => exact RS.nil _ _ _
  | succ d => exact RS.nil _ _ _
theorem NodesR.zero (h : NodesR 0 w v l) : l = [] := by
  obtain ⟨rows, h1, h2, h3⟩ := RS.ex h
  cases l with
  | nil => rfl
  | cons x l =>
    obtain ⟨r, hr⟩ : ∃ r, rows[0]? = some r := ⟨rows[0]'(by rw [h2]; simp), List.getElem?_eq_getElem (by rw [h2]; simp)⟩
    exact (h3 0 r x hr rfl).2.elim
/-- the cells of a node -/
theorem NodesR.at_ {A : Option Addr} {n c : Nat} (h : NodesR d w (.slice A n c) l) {i : Nat} (hi : i < l.length) :
    ∃ b o u bv, A = some ⟨b, o, none⟩ ∧ w.cell? ⟨b, o + i * 6, none⟩ = some (.int .i64 l[i].op) ∧ w.cell? ⟨b, o + i * 6 + 1, none⟩ = some u ∧ w.cell? ⟨b, o + i * 6 + 2, none⟩ = some (.int .i64 l[i].kind) ∧
      w.cell? ⟨b, o + i * 6 + 3, none⟩ = some (.int .i64 l[i].fa) ∧ w.cell? ⟨b, o + i * 6 + 4, none⟩ = some (.int .i64 l[i].a) ∧ w.cell? ⟨b, o + i * 6 + 5, none⟩ = some bv ∧ RE w u l[i].ins ∧ NodesR (d - 1) w bv l[i].body := by
  cases d with
  | zero =>
    have := NodesR.zero h
    subst this
    simp at hi
  | succ d =>
    obtain ⟨b, o, r, hA, hr, ⟨u, bv, h1, h2, h3⟩, hc⟩ := RS.at_ h (by omega) hi
    subst h1
    exact ⟨b, o, u, bv, hA, hc 0 _ rfl, hc 1 _ rfl, hc 2 _ rfl, hc 3 _ rfl, hc 4 _ rfl, hc 5 _ rfl, h2, h3⟩
end
theorem NodesR.of_rs {w : World} {v : Value} {l : List Nd} {d : Nat} (h : RS 6 (NdQ (NodesR d)) w v l) : NodesR (d + 1) w v l := h
end Gr
end Go.Ox
namespace Go.Proofs.YtpmgmiiidfconaaGreatDoor
open Go.RowKit Go.Ox Go.Ox.Gr
set_option linter.unusedVariables false
set_option linter.unusedSimpArgs false
abbrev fnV (k a : Int) : Value := .agg #[.int .i64 k, .int .i64 a]
theorem eqInF (a b c d : Int) (w : World) : (Op.equalIn 10000 55 (fnV a b) (fnV c d)).run Tryz.prog w = .ok ((a == c) && (b == d)) w := by
  have u3 := Tryz.underlying3
  have a3 := Tryz.isAgg3
  have z3 := Tryz.sizeOf3
  have hS : Tryz.prog.underlying 55 = some (.struct (Tryz.prog.fieldsOf 55)) := by kernel_rfl
  have hp : Tryz.prog.stoodInHeld 55 = false := by kernel_rfl
  rw [show (10000 : Nat) = 9999 + 1 from rfl, run_equalIn_agg w 9999 55 _ _ hS hp]
  simp only [Program.fieldsOf, Tryz.underlying55]
  go_simp
  by_cases h1 : a = c <;> by_cases h2 : b = d <;> simp [h1, h2]
theorem eqF (a b c d : Int) (w : World) : (binOp .eql 55 (fnV a b) (fnV c d)).run Tryz.prog w = .ok (.bool ((a == c) && (b == d))) w := by
  rw [run_eql_struct, eqInF]; rfl
theorem kinds (k : Int) : k = 1 ∨ k = 2 ∨ k = 3 ∨ k = 4 ∨ k = 5 ∨ k = 6 ∨ k = 7 ∨ k = 8 ∨ k = 9 ∨ k = 10 ∨ k = 11 ∨ k = 12 ∨ k = 13 ∨ k = 14 ∨ k = 15 ∨ k = 16 ∨ k = 17 ∨ k = 18 ∨ k = 19 ∨ k = 20 ∨ k = 21 ∨ k = 22 ∨ k = 23 ∨ (k < 1 ∨ 23 < k) := by omega
theorem ops11 (k : Int) : k = 1 ∨ k = 2 ∨ k = 3 ∨ k = 4 ∨ k = 5 ∨ k = 6 ∨ k = 7 ∨ k = 8 ∨ k = 9 ∨ k = 10 ∨ k = 11 ∨ (k < 1 ∨ 11 < k) := by omega
set_option maxRecDepth 100000 in
set_option maxHeartbeats 400000 in
theorem fnBounds (k : Int) (w : World) : Calls Tryz.prog 107 #[.int .i64 k] w fun e w' => e = .returned (.tuple #[.int .i64 (lst k), .int .i64 (mst k)]) ∧ w = w' := by
  rcases kinds k with rfl | rfl | rfl | rfl | rfl | rfl | rfl | rfl | rfl | rfl | rfl | rfl | rfl | rfl | rfl | rfl | rfl | rfl | rfl | rfl | rfl | rfl | rfl | hk
  case' inr.inr.inr.inr.inr.inr.inr.inr.inr.inr.inr.inr.inr.inr.inr.inr.inr.inr.inr.inr.inr.inr.inr =>
    have e1 : lst k = 0 := if_neg (by omega)
    have e2 : mst k = 0 := by unfold mst; rw [if_neg (by omega), if_neg (by omega)]
    rw [e1, e2]
    clear e1 e2
    have n1 : ¬ k = 1 := by omega
    have n2 : ¬ k = 2 := by omega
    have n3 : ¬ k = 3 := by omega
    have n4 : ¬ k = 4 := by omega
    have n5 : ¬ k = 5 := by omega
    have n6 : ¬ k = 6 := by omega
    have n7 : ¬ k = 7 := by omega
    have n8 : ¬ k = 8 := by omega
    have n9 : ¬ k = 9 := by omega
    have n10 : ¬ k = 10 := by omega
    have n11 : ¬ k = 11 := by omega
    have n12 : ¬ k = 12 := by omega
    have n13 : ¬ k = 13 := by omega
    have n14 : ¬ k = 14 := by omega
    have n15 : ¬ k = 15 := by omega
    have n16 : ¬ k = 16 := by omega
    have n17 : ¬ k = 17 := by omega
    have n18 : ¬ k = 18 := by omega
    have n19 : ¬ k = 19 := by omega
    have n20 : ¬ k = 20 := by omega
    have n21 : ¬ k = 21 := by omega
    have n22 : ¬ k = 22 := by omega
    have n23 : ¬ k = 23 := by omega
    clear hk
  all_goals
    go_enter Tryz.func107, Tryz.ntmps107
    go_wp2
    go_ret2
    exact ⟨rfl, rfl⟩
set_option maxRecDepth 100000 in
set_option maxHeartbeats 400000 in
theorem fnKind (k : Int) (w : World) : Calls Tryz.prog 108 #[.int .i64 k] w fun e w' => e = .returned (.int .i64 (fk k)) ∧ w = w' := by
  unfold fk
  by_cases h0 : k < 1
  · rw [if_pos h0]
    go_enter Tryz.func108, Tryz.ntmps108
    go_wp2
    go_ret
    exact ⟨rfl, rfl⟩
  rw [if_neg h0]
  by_cases h1 : k ≤ 8
  · rw [if_pos h1]
    go_enter Tryz.func108, Tryz.ntmps108
    go_wp2
    go_ret
    exact ⟨rfl, rfl⟩
  rw [if_neg h1]
  by_cases h2 : k ≤ 12
  · rw [if_pos h2]
    go_enter Tryz.func108, Tryz.ntmps108
    go_wp2
    go_ret
    exact ⟨rfl, rfl⟩
  rw [if_neg h2]
  by_cases h3 : k ≤ 15
  · rw [if_pos h3]
    go_enter Tryz.func108, Tryz.ntmps108
    go_wp2
    go_ret
    exact ⟨rfl, rfl⟩
  rw [if_neg h3]
  by_cases h4 : k ≤ 19
  · rw [if_pos h4]
    go_enter Tryz.func108, Tryz.ntmps108
    go_wp2
    go_ret
    exact ⟨rfl, rfl⟩
  rw [if_neg h4]
  by_cases h5 : k ≤ 23
  · rw [if_pos h5]
    go_enter Tryz.func108, Tryz.ntmps108
    go_wp2
    go_ret
    exact ⟨rfl, rfl⟩
  rw [if_neg h5]
  go_enter Tryz.func108, Tryz.ntmps108
  go_wp2
  go_ret
  exact ⟨rfl, rfl⟩
/-- what is wrong with a function -/
def fnE (k a : Int) : Int := if fk k = 0 ∨ a < lst k ∨ mst k < a then 160 else 0
set_option maxRecDepth 100000 in
set_option maxHeartbeats 400000 in
theorem fnCheck (k a : Int) (w : World) : Calls Tryz.prog 80 #[fnV k a] w fun e w' => e = .returned (.int .i64 (fnE k a)) ∧ Ext w w' := by
  have HB := Lib.hid (fun w => fnBounds k w)
  have HK := Lib.hid (fun w => fnKind k w)
  have HX0 := Lib.hid ((Ext.refl w).alloc (.cells #[.int .i64 k, .int .i64 a] 55))
  have hb := Blk.new w 55 #[.int .i64 k, .int .i64 a]
  have c0 : (w.alloc (.cells #[.int .i64 k, .int .i64 a] 55)).cell? ⟨w.heap.size, 0, none⟩ = some (.int .i64 k) := hb.cell 0
  have c1 : (w.alloc (.cells #[.int .i64 k, .int .i64 a] 55)).cell? ⟨w.heap.size, 1, none⟩ = some (.int .i64 a) := hb.cell 1
  clear hb
  have HQ := Lib.hid (show (fk k = 0 → fnE k a = 160) ∧ (a < lst k → fnE k a = 160) ∧ (mst k < a → fnE k a = 160) ∧ (¬ fk k = 0 → ¬ a < lst k → ¬ mst k < a → fnE k a = 0) from ⟨fun h => if_pos (.inl h), fun h => if_pos (.inr (.inl h)), fun h => if_pos (.inr (.inr h)), fun h1 h2 h3 => if_neg fun q => q.elim h1 fun q => q.elim h2 h3⟩)
  generalize fnE k a = er at *
  generalize lst k = lo at *
  generalize mst k = hi at *
  generalize fk k = f at *
  go_enter Tryz.func80, Tryz.ntmps80
  go_upto_region 1 with fail
  generalize w.heap.size = p at *
  generalize w.alloc (.cells #[.int .i64 k, .int .i64 a] 55) = w0 at *
  go_wp2_with fail
  refine (HB.out _).mono ?_
  rintro e w' ⟨rfl, rfl⟩
  go_wp2_with fail
  refine (HK.out _).mono ?_
  rintro e w' ⟨rfl, rfl⟩
  by_cases h1 : f = 0
  · have HE := Lib.hid (HQ.out.1 h1)
    go_wp2
    go_ret
    exact ⟨by rw [HE.out]; rfl, HX0.out⟩
  by_cases h2 : a < lo
  · have HE := Lib.hid (HQ.out.2.1 h2)
    have hb : (f == 0) = false := by simpa using h1
    go_wp2
    go_ret
    exact ⟨by rw [HE.out]; rfl, HX0.out⟩
  by_cases h3 : hi < a
  · have HE := Lib.hid (HQ.out.2.2.1 h3)
    have hb : (f == 0) = false := by simpa using h1
    go_wp2
    go_ret
    exact ⟨by rw [HE.out]; rfl, HX0.out⟩
  have HE := Lib.hid (HQ.out.2.2.2 h1 (by omega) (by omega))
  have hb : (f == 0) = false := by simpa using h1
  clear h1
  go_wp2
  go_ret
  exact ⟨by rw [HE.out]; rfl, HX0.out⟩
theorem fam_e (k a : Int) : fam k a = if fnE k a = 0 then fk k else 0 := by
  unfold fam fnE
  by_cases h1 : fk k = 0
  · rw [h1]; simp
  by_cases h2 : a < lst k ∨ mst k < a
  · rw [if_pos h2, if_pos (show fk k = 0 ∨ a < lst k ∨ mst k < a from .inr h2)]; simp
  · rw [if_neg h2, if_neg (show ¬ (fk k = 0 ∨ a < lst k ∨ mst k < a) from fun q => q.elim h1 h2), if_pos rfl]
set_option maxRecDepth 100000 in
set_option maxHeartbeats 400000 in
theorem fnFamily (k a : Int) (w : World) : Calls Tryz.prog 106 #[fnV k a] w fun e w' => e = .returned (.int .i64 (fam k a)) ∧ Ext w w' := by
  have HC := Lib.hid (fun w => fnCheck k a w)
  have HK := Lib.hid (fun w => fnKind k w)
  have HX0 := Lib.hid ((Ext.refl w).alloc (.cells #[.int .i64 k, .int .i64 a] 55))
  have HB := Lib.hid (Blk.new w 55 #[.int .i64 k, .int .i64 a])
  have HQ := Lib.hid (fam_e k a)
  generalize fam k a = fm at *
  generalize fnE k a = er at *
  generalize fk k = f at *
  go_enter Tryz.func106, Tryz.ntmps106
  go_upto_region 1 with fail
  generalize w.heap.size = p at *
  generalize w.alloc (.cells #[.int .i64 k, .int .i64 a] 55) = w0 at *
  have c0 : w0.cell? ⟨p, 0, none⟩ = some (.int .i64 k) := HB.out.cell 0
  have c1 : w0.cell? ⟨p, 1, none⟩ = some (.int .i64 a) := HB.out.cell 1
  go_wp2_with fail
  refine (HC.out _).mono ?_
  rintro e w1 ⟨rfl, he1⟩
  have d0 := he1.cell c0
  have HX1 := Lib.hid (HX0.out.trans he1)
  clear he1 c0 c1
  by_cases h : er = 0
  · rw [if_pos h] at HQ
    subst h
    go_wp2_with fail
    refine (HK.out _).mono ?_
    rintro e w' ⟨rfl, rfl⟩
    go_wp2
    go_ret
    exact ⟨by rw [HQ.out]; rfl, HX1.out⟩
  · rw [if_neg h] at HQ
    go_wp2
    go_ret
    exact ⟨by rw [HQ.out]; rfl, HX1.out⟩
end Go.Proofs.YtpmgmiiidfconaaGreatDoor
