/-
  Tree, packed: what the claim needs of them.
-/
import Derived.Test.YtdkejfjcchlnpaaGreatFn10
set_option linter.unusedSimpArgs false
set_option linter.unusedVariables false
namespace Go.Ox
open Go.ChangeShapes Go.WideShapes Go.ChangeAt Go.RowKit Go.Deep
section
variable {β : Type}
structure RS (k : Nat) (Q : World → List Value → β → Prop) (w : World) (v : Value) (ls : List β) : Prop where
 ex : ∃ rows : List (List Value), Rd w k v rows.length rows.flatten ∧ rows.length = ls.length ∧ ∀ (i : Nat) (r : List Value) (x : β), rows[i]? = some r → ls[i]? = some x → r.length = k ∧ Q w r x
variable {k : Nat} {Q : World → List Value → β → Prop} {w w' : World} {v : Value} {ls : List β}
theorem RS.ext (h : RS k Q w v ls) (hq : ∀ r x, x ∈ ls → Q w r x → Q w' r x) (he : Ext w w') : RS k Q w' v ls := by
 obtain ⟨rows, h1, h2, h3⟩ := h.ex;exact ⟨rows, Rd.ext h1 he, h2, fun i r x hr hx => ⟨(h3 i r x hr hx).1, hq r x (List.mem_of_getElem? hx) (h3 i r x hr hx).2⟩⟩
theorem RS.form (h : RS k Q w v ls) : ∃ A c, v = .slice A ls.length c := by
 obtain ⟨rows, h1, h2, h3⟩ := h.ex;obtain ⟨A, c, rfl, -⟩ := h1;exact ⟨A, c, by rw [h2]⟩
theorem RS.nil (k : Nat) (Q : World → List Value → β → Prop) (w : World) : RS k Q w (.slice none 0 0) [] := ⟨[], Rd.nil _ _, rfl, fun i r x hr => by simp at hr⟩
theorem a7H {L : Nat} {i j : Nat} (rows : List (List Value)) (h : ∀ r ∈ rows, r.length = L) (hj : j < L) {r : List Value} (hr : rows[i]? = some r) : rows.flatten[i * L + j]? = r[j]? := by
 rw [a4V (by omega) rows h, Nat.mul_comm, Nat.mul_add_div (by omega), Nat.div_eq_of_lt hj, Nat.mul_add_mod, Nat.mod_eq_of_lt hj]
 simp [hr]
theorem RS.at_ {A : Option Addr} {n c : Nat} (h : RS k Q w (.slice A n c) ls) (hk : 0 < k) {i : Nat} (hi : i < ls.length) :
 ∃ b o r, A = some ⟨b, o, none⟩ ∧ r.length = k ∧ Q w r ls[i] ∧ ∀ j u, r[j]? = some u → w.cell? ⟨b, o + i * k + j, none⟩ = some u := by
 obtain ⟨rows, h1, h2, h3⟩ := h.ex;obtain ⟨r, hr⟩ : ∃ r, rows[i]? = some r := ⟨rows[i]'(by omega), List.getElem?_eq_getElem (by omega)⟩
 obtain ⟨q1, q2⟩ := h3 i r ls[i] hr (List.getElem?_eq_getElem hi)
 have hall : ∀ r ∈ rows, r.length = k := by
  intro r hr;obtain ⟨j, hj, rfl⟩ := List.getElem_of_mem hr;exact (h3 j _ (ls[j]'(by omega)) (List.getElem?_eq_getElem hj) (List.getElem?_eq_getElem (by omega))).1
 obtain ⟨A', c', hv, hx⟩ := h1;injection hv with v1 v2 v3
 subst v1; subst v3
 rcases A with _ | ⟨b, o, s⟩
 · have := hx.nil rfl; have := hx.nc; omega
 have hs : s = none := (hx.at_ _ rfl (i * k + 0) r[0] (by rw [a7H rows hall hk hr]; exact List.getElem?_eq_getElem (by omega))).1
 subst hs;refine ⟨b, o, r, rfl, q1, q2, fun j u hu => ?_⟩
 have hj : j < k := by
  rcases Nat.lt_or_ge j r.length with q | q
  · omega
  rw [List.getElem?_eq_none q] at hu; cases hu
 have := (hx.at_ _ rfl (i * k + j) u (by rw [a7H rows hall hj hr]; exact hu)).2
 rw [Nat.add_assoc]; exact this
end
inductive LeafT
 | int (k : IntKind)
 | bool
 | cell (t : TypeId)
def LeafT.ok (R : TypeId → Value → Prop) : LeafT → Value → Prop
 | .int k, v => ∃ n, v = .int k n ∧ (Lit.int k n).wf = true
 | .bool, v => ∃ b, v = .bool b
 | .cell t, v => R t v
def a9a (R : TypeId → Value → Prop) : List LeafT → List Value → Prop
 | [], [] => True
 | k :: ks, c :: cs => k.ok R c ∧ a9a R ks cs
 | _, _ => False
section
variable {R : TypeId → Value → Prop}
theorem a48 : ∀ {ks ks' : List LeafT} {cs cs' : List Value}, a9a R ks cs → a9a R ks' cs' → a9a R (ks ++ ks') (cs ++ cs')
 | [], _, [], _, _, h => h
 | [], _, _ :: _, _, h, _ => h.elim
 | _ :: _, _, [], _, h, _ => h.elim
 | _ :: _, _, _ :: _, _, h, k => ⟨h.1, a48 h.2 k⟩
theorem a7I {k : IntKind} {ks : List LeafT} : ∀ {cs : List Value}, a9a R (.int k :: ks) cs → ∃ n cs', cs = .int k n :: cs' ∧ (Lit.int k n).wf = true ∧ a9a R ks cs'
 | [], h => h.elim
 | c :: cs, h => by
  obtain ⟨⟨n, rfl, hw⟩, h2⟩ := h;exact ⟨n, cs, rfl, hw, h2⟩
theorem b1w : ∀ {cs : List Value}, a9a R [] cs → cs = []
 | [], _ => rfl
 | _ :: _, h => h.elim
end
def a6k (P : Program) (fl : TypeId → Option (List LeafT)) : List Field → Nat → Option (List LeafT)
 | [], _ => some []
 | f :: fs, off =>
  if f.offset = off then
   match fl f.type with
   | some ks => if P.cellsOf f.type = ks.length then
    match a6k P fl fs (off + ks.length) with
    | some rs => some (ks ++ rs)
    | none => none
    else none
   | none => none
  else none
def a6U (P : Program) : Nat → TypeId → Option (List LeafT)
 | 0, _ => none
 | n + 1, t =>
  match P.underlying t with
  | some (.int k) => some [.int k]
  | some .bool => some [.bool]
  | some (.slice _) => some [.cell t]
  | some (.struct fs) => match a6k P (a6U P n) fs.toList 0 with
   | some ks => if P.cellsOf t = ks.length then some ks else none
   | none => none
  | _ => none
section
variable {H : Type} {enc : TypeId × Value → H} {P : Program} {W : World} {base : Nat} {sp : Nat → Bool} {held : Bool}
def Was (enc : TypeId × Value → H) (P : Program) (W : World) (base : Nat) (sp : Nat → Bool) (held : Bool) (N : Nat) (t : TypeId) (u : Value) : Prop := ∃ fuel y, fuel ≤ N ∧ DataW.trod enc P W base sp held fuel t [u] = some y
theorem a7J {n N : Nat} (ih : ∀ t ks fuel cs x, fuel ≤ N → a6U P n t = some ks → DataW.trod enc P W base sp held fuel t cs = some x → a9a (Was enc P W base sp held N) ks cs) {m : Nat} (hm : m ≤ N) {cs : List Value} :
 ∀ (fs : List Field) (off : Nat) (ks : List LeafT), a6k P (a6U P n) fs off = some ks → (∀ f ∈ fs, ∃ x, DataW.trod enc P W base sp held m f.type ((cs.drop f.offset).take (P.cellsOf f.type)) = some x) → off + ks.length ≤ cs.length →
  a9a (Was enc P W base sp held N) ks ((cs.drop off).take ks.length)
 | [], off, ks, h, _, _ => by
  simp [a6k] at h; subst h;simp [a9a]
 | f :: fs, off, ks, h, hx, hl => by
  unfold a6k at h
  split at h
  · rename_i ho
    split at h
    · rename_i k1 h1
      split at h
      · rename_i hc
        split at h
        · rename_i rs h2
          injection h with h; subst h
          obtain ⟨x, hx1⟩ := hx f (List.mem_cons_self ..);have r1 := ih _ _ _ _ _ hm h1 hx1;rw [List.length_append] at hl;have r2 := a7J ih hm (cs := cs) fs _ _ h2 (fun g hg => hx g (List.mem_cons_of_mem _ hg)) (by omega)
          rw [ho, hc] at r1;rw [List.length_append, List.take_add, List.drop_drop];exact a48 r1 r2
        · cases h
      · cases h
    · cases h
  · cases h
theorem a4W {N : Nat} : ∀ (n : Nat) (t : TypeId) (ks : List LeafT) (fuel : Nat) (cs : List Value) (x : DataW H × List MemPlace), fuel ≤ N → a6U P n t = some ks → DataW.trod enc P W base sp held fuel t cs = some x → a9a (Was enc P W base sp held N) ks cs
 | 0, _, _, _, _, _, _, h, _ => by unfold a6U at h; cases h
 | n + 1, t, ks, fuel, cs, x, hN, h, hx => by
  unfold a6U at h
  split at h
  · rename_i k hu
    injection h with h; subst h
    obtain ⟨z, rfl, _, hw⟩ := DataW.trod_int hu hx;exact ⟨⟨z, rfl, hw⟩, trivial⟩
  · rename_i hu
    injection h with h; subst h
    obtain ⟨b, rfl, _⟩ := DataW.trod_bool hu hx;exact ⟨⟨b, rfl⟩, trivial⟩
  · rename_i e hu
    injection h with h; subst h
    rcases open_slice hu hx with ⟨rfl, _⟩ | ⟨a, len, cap, m, k, D, Pl, rfl, _⟩ <;> exact ⟨⟨fuel, x, hN, hx⟩, trivial⟩
  · rename_i fs hu
    split at h
    · rename_i k1 h1
      split at h
      · rename_i hc
        injection h with h; subst h
        obtain ⟨xs, m, hfu, _, hl, hlen, hf⟩ := DataW.trod_struct hu hx
        have := a7J (cs := cs) (m := m) (N := N) (a4W n) (by omega) fs.toList 0 k1 h1 (fun f hf' => by
         obtain ⟨i, hi, hif⟩ := List.getElem_of_mem hf';have h3 := hf i f (by simp at hi; rw [Array.getElem?_eq_getElem (by simpa using hi)]; simpa using hif)
         have h4 : i < xs.length := by simp at hi; omega
         rw [List.getElem?_eq_getElem h4] at h3
         exact ⟨_, h3⟩) (by omega)
        rw [List.drop_zero, ← hc, ← hl, List.take_length] at this;exact this
      · cases h
    · cases h
  · cases h
theorem a4a {n : Nat} {t : TypeId} {ks : List LeafT} {fs : Array Field} (hf : a6U P n t = some ks) (hu : P.underlying t = some (.struct fs)) {v : Value} {d : DataW H} {p : List MemPlace} {r : Reach} {b0 : Nat}
 (hv : Value.okWide P W r b0 t v) (h : DataW.Trod enc P W base sp held t v d p) : ∃ (cs : List Value) (N : Nat), v = .agg cs.toArray ∧ a9a (Was enc P W base sp held N) ks cs := by
 obtain ⟨cs, rfl, hsz⟩ := okWide_struct hu hv;obtain ⟨fuel, hf'⟩ := h;refine ⟨cs.toList, fuel, by simp, ?_⟩
 have := a4W _ _ _ _ _ _ (Nat.le_refl _) hf hf';simpa [Value.cells] using this
end
end Go.Ox
namespace Go.Ox
open Go.RowKit
section
variable {β : Type}
def b1k (K0 : Nat → Prop) (v : Value) (w : World) (k : Nat) : Prop := K0 k ∨ v.ownBlock = some k ∨ w.heap.size ≤ k
structure OS (K0 : Nat → Prop) (E k base : Nat) (Q : World → List Value → β → Prop) (w : World) (v : Value) (ls : List β) : Prop where
 ex : ∃ rows : List (List Value), w.ownsRow base E k v rows.length rows.flatten ∧ rows.length = ls.length ∧ ∀ (i : Nat) (r : List Value) (x : β), rows[i]? = some r → ls[i]? = some x → r.length = k ∧ ∀ W, ExtQ (b1k K0 v w) w W → Q W r x
variable {K0 : Nat → Prop} {E k base : Nat} {Q : World → List Value → β → Prop} {w w' : World} {v : Value} {ls : List β}
theorem OS.nil (K0 : Nat → Prop) (E k base : Nat) (Q : World → List Value → β → Prop) (w : World) : OS K0 E k base Q w (.slice none 0 0) [] := ⟨[], World.ownsRow_nil _ _ _ _, rfl, fun i r x hr => by simp at hr⟩
theorem OS.rs (h : OS K0 E k base Q w v ls) : RS k Q w v ls := by
 obtain ⟨rows, h1, h2, h3⟩ := h.ex;exact ⟨rows, Rd.a3t h1, h2, fun i r x hr hx => ⟨(h3 i r x hr hx).1, (h3 i r x hr hx).2 w (ExtQ.refl _ _)⟩⟩
theorem OS.form (h : OS K0 E k base Q w v ls) : ∃ A c, v = .slice A ls.length c := h.rs.form
theorem OS.lt (h : OS K0 E k base Q w v ls) {g : Nat} (hg : v.ownBlock = some g) : base ≤ g ∧ g < w.heap.size := by
 obtain ⟨rows, h1, -⟩ := h.ex;exact h1.lt g hg
theorem OS.a0Q {K : Nat → Prop} (h : OS K0 E k base Q w v ls) (he : ExtQ K w w') (hK : ∀ j, K j → K0 j ∨ w.heap.size ≤ j) (h0 : ∀ g, v.ownBlock = some g → ¬ K0 g) : OS K0 E k base Q w' v ls := by
 obtain ⟨rows, h1, h2, h3⟩ := h.ex;refine ⟨rows, a0a h1 he fun g hg q => ?_, h2, fun i r x hr hx => ⟨(h3 i r x hr hx).1, fun W hW => (h3 i r x hr hx).2 W ?_⟩⟩
 · rcases hK g q with q | q
   · exact h0 g hg q
   have := (h1.lt g hg).2; omega
 refine (he.mono fun j hj => (hK j hj).imp_right .inr).trans (hW.mono fun j hj => ?_)
 rcases hj with hj | hj | hj
 · exact .inl hj
 · exact .inr (.inl hj)
 exact .inr (.inr (Nat.le_trans he.size hj))
theorem OS.ext (h : OS K0 E k base Q w v ls) (he : Ext w w') : OS K0 E k base Q w' v ls := by
 obtain ⟨rows, h1, h2, h3⟩ := h.ex;refine ⟨rows, a1N h1 he, h2, fun i r x hr hx => ⟨(h3 i r x hr hx).1, fun W hW => (h3 i r x hr hx).2 W ?_⟩⟩
 refine (ExtQ.of he).trans (hW.mono fun j hj => ?_)
 rcases hj with hj | hj | hj
 · exact .inl hj
 · exact .inr (.inl hj)
 exact .inr (.inr (Nat.le_trans he.size hj))
theorem OS.appd {v' : Value} {rows : List (List Value)} {r : List Value} {y : β} (h2 : rows.length = ls.length)
 (h3 : ∀ (i : Nat) (r : List Value) (x : β), rows[i]? = some r → ls[i]? = some x → r.length = k ∧ ∀ W, ExtQ (b1k K0 v w) w W → Q W r x)
 (ha : Appended w w' base E k v v' rows.length 1 rows.flatten r) (hrk : r.length = k) (hq : ∀ W, ExtQ (b1k K0 v w) w W → Q W r y) : OS K0 E k base Q w' v' (ls ++ [y]) := by
 refine ⟨rows ++ [r], ?_, by simp [h2], fun i r' x' hr' hx' => ?_⟩
 · rw [List.length_append, List.flatten_append, List.flatten_singleton]
   exact ha.own
 have step : ∀ W, ExtQ (b1k K0 v' w') w' W → ExtQ (b1k K0 v w) w W := fun W hW => by
  refine (ExtQ.grown (Q := b1k K0 v w) ha.grown fun j hj => .inr (.inl hj)).trans (hW.mono fun j hj => ?_)
  rcases hj with hj | hj | hj
  · exact .inl hj
  · rcases ha.at_ with q | q
    · exact .inr (.inl (q ▸ hj))
    rw [q] at hj; injection hj with hj; exact .inr (.inr (by omega))
  · exact .inr (.inr (Nat.le_trans ha.grown.size hj))
 rcases Nat.lt_or_ge i rows.length with hi | hi
 · rw [List.getElem?_append_left hi] at hr'
   rw [List.getElem?_append_left (by omega)] at hx'
   exact ⟨(h3 i r' x' hr' hx').1, fun W hW => (h3 i r' x' hr' hx').2 W (step W hW)⟩
 have hi2 : i = rows.length := by
  rcases Nat.lt_or_ge i (rows.length + 1) with q | q
  · omega
  · rw [List.getElem?_eq_none (by simp; omega)] at hr'; cases hr'
 subst hi2;rw [List.getElem?_append_right (Nat.le_refl _), Nat.sub_self] at hr';rw [h2, List.getElem?_append_right (Nat.le_refl _), Nat.sub_self] at hx';simp at hr' hx';subst hr'; subst hx';exact ⟨hrk, fun W hW => hq W (step W hW)⟩
theorem a6V {P : Program} {t e : TypeId} {z : Value} {bytes : Nat} {ops : Array Oper} {rest : List Oper} {o : Oper} {a : Act} {Qx : Exit → Act → World → Prop} (hgd : o.guard = none) (el : Elem P t e z k bytes) (w : World) (s x : Operand)
 (ho : o.op = .call { callee := .builtin .append, args := #[s, x], argTypes := #[t, t] })
 (base : Nat) (v vx : Value) (l : List β) (hs : a.eval s = v) (hown : OS K0 e k base Q w v l) (hx : a.eval x = vx) (r : List Value) (y : β) (hr : Rd w k vx 1 r) (hr1 : ∀ u ∈ r, u.oneCell' = true) (hrk : r.length = k)
 (hq : ∀ W, ExtQ (b1k K0 v w) w W → Q W r y)
 (hb : (l.length + 1) * bytes ≤ 140737488355328) (hm : l.length + 1 ≤ maxLen) (hbase : base ≤ w.heap.size)
 (h : ∀ v' w', OS K0 e k base Q w' v' (l ++ [y]) → w.grownBy w' v.ownBlock → wpList P ops Qx rest (a.put o.dst v') w') : wpList P ops Qx (o :: rest) a w := by
 obtain ⟨rows, h1, h2, h3⟩ := hown.ex;exact a0J hgd el w s x ho base v rows.length rows.flatten hs h1 vx 1 r hx hr hr1 (by rw [h2]; exact hb) (by rw [h2]; exact hm) hbase fun v' w' ha => h v' w' (OS.appd h2 h3 ha hrk hq) ha.grown
theorem b3l {P : Program} {t e : TypeId} {z : Value} {bytes : Nat} {o : Oper} {a : Act} {Kx : Act → World → Prop} {Qx : Exit → Act → World → Prop} (el : Elem P t e z k bytes) (w : World) (s x : Operand)
 (ho : o.op = .call { callee := .builtin .append, args := #[s, x], argTypes := #[t, t] })
 (base : Nat) (v vx : Value) (l : List β) (hs : a.eval s = v) (hown : OS K0 e k base Q w v l) (hx : a.eval x = vx) (r : List Value) (y : β) (hr : Rd w k vx 1 r) (hr1 : ∀ u ∈ r, u.oneCell' = true) (hrk : r.length = k)
 (hq : ∀ W, ExtQ (b1k K0 v w) w W → Q W r y)
 (hb : (l.length + 1) * bytes ≤ 140737488355328) (hm : l.length + 1 ≤ maxLen) (hbase : base ≤ w.heap.size)
 (h : ∀ v' w', OS K0 e k base Q w' v' (l ++ [y]) → w.grownBy w' v.ownBlock → Kx (a.put o.dst v') w') : o.wp P a w Kx Qx := by
 obtain ⟨rows, h1, h2, h3⟩ := hown.ex;exact a9c el w s x ho base v rows.length rows.flatten hs h1 vx 1 r hx hr hr1 (by rw [h2]; exact hb) (by rw [h2]; exact hm) hbase fun v' w' ha => h v' w' (OS.appd h2 h3 ha hrk hq) ha.grown
end
end Go.Ox
