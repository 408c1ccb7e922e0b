/-
  Tree, GrMath, Gr, GrFn, packed: what the claim needs of them.
-/
import Derived.Test.YtdkejfjcchlnpaaGreatFt08
set_option maxHeartbeats 40000000
open Go.Lib (hid)
set_option linter.unusedSimpArgs false
set_option linter.unusedVariables false
set_option maxRecDepth 100000
namespace Go.Ox
open Go.ChangeShapes Go.WideShapes Go.ChangeAt Go.RowKit Go.Deep
section
variable {β : Type}
structure RS (k : Nat) (Q : World -> List Value -> β -> Prop) (w : World) (v : Value) (ls : List β) : Prop where
 ex : ∃ rows : List (List Value), Rd w k v rows.length rows.flatten ∧ rows.length = ls.length ∧ ∀ (i : Nat) (r : List Value) (x : β), rows[i]? = some r -> ls[i]? = some x -> r.length = k ∧ Q w r x
variable {k : Nat} {Q : World -> List Value -> β -> Prop} {w w' : World} {v : Value} {ls : List β}
theorem RS.map {Q' : World -> List Value -> β -> Prop} (h : RS k Q w v ls) (hq : ∀ r x, x ∈ ls -> Q w r x -> Q' w r x) : RS k Q' w v ls := by
 obtain ⟨rows, h1, h2, h3⟩ := h.ex;exact ⟨rows, h1, h2, fun i r x hr hx => ⟨(h3 i r x hr hx).1, hq r x (List.mem_of_getElem? hx) (h3 i r x hr hx).2⟩⟩
theorem RS.ext (h : RS k Q w v ls) (hq : ∀ r x, x ∈ ls -> Q w r x -> Q w' r x) (he : Ext w w') : RS k Q w' v ls := by
 obtain ⟨rows, h1, h2, h3⟩ := h.ex;exact ⟨rows, Rd.ext h1 he, h2, fun i r x hr hx => ⟨(h3 i r x hr hx).1, hq r x (List.mem_of_getElem? hx) (h3 i r x hr hx).2⟩⟩
theorem RS.form (h : RS k Q w v ls) : ∃ A c, v = .slice A ls.length c := by
 obtain ⟨rows, h1, h2, h3⟩ := h.ex;obtain ⟨A, c, rfl, -⟩ := h1;exact ⟨A, c, by rw [h2]⟩
theorem RS.nil (k : Nat) (Q : World -> List Value -> β -> Prop) (w : World) : RS k Q w (.slice none 0 0) [] := ⟨[], Rd.nil _ _, rfl, fun i r x hr => by simp at hr⟩
theorem a9s {L : Nat} {i j : Nat} (rows : List (List Value)) (h : ∀ r ∈ rows, r.length = L) (hj : j < L) {r : List Value} (hr : rows[i]? = some r) : rows.flatten[i * L + j]? = r[j]? := by
 rw [a3b (by omega) rows h, Nat.mul_comm, Nat.mul_add_div (by omega), Nat.div_eq_of_lt hj, Nat.mul_add_mod, Nat.mod_eq_of_lt hj]
 simp [hr]
theorem RS.at_ {A : Option Addr} {n c : Nat} (h : RS k Q w (.slice A n c) ls) (hk : 0 < k) {i : Nat} (hi : i < ls.length) :
 ∃ b o r, A = some ⟨b, o, none⟩ ∧ r.length = k ∧ Q w r ls[i] ∧ ∀ j u, r[j]? = some u -> w.cell? ⟨b, o + i * k + j, none⟩ = some u := by
 obtain ⟨rows, h1, h2, h3⟩ := h.ex;obtain ⟨r, hr⟩ : ∃ r, rows[i]? = some r := ⟨rows[i]'(by omega), List.getElem?_eq_getElem (by omega)⟩
 obtain ⟨q1, q2⟩ := h3 i r ls[i] hr (List.getElem?_eq_getElem hi)
 have hall : ∀ r ∈ rows, r.length = k := by
  intro r hr;obtain ⟨j, hj, rfl⟩ := List.getElem_of_mem hr;exact (h3 j _ (ls[j]'(by omega)) (List.getElem?_eq_getElem hj) (List.getElem?_eq_getElem (by omega))).1
 obtain ⟨A', c', hv, hx⟩ := h1;injection hv with v1 v2 v3
 subst v1; subst v3
 rcases A with _ | ⟨b, o, s⟩
 . have := hx.nil rfl; have := hx.nc; omega
 have hs : s = none := (hx.at_ _ rfl (i * k + 0) r[0] (by rw [a9s rows hall hk hr]; exact List.getElem?_eq_getElem (by omega))).1
 subst hs;refine ⟨b, o, r, rfl, q1, q2, fun j u hu => ?_⟩
 have hj : j < k := by
  rcases Nat.lt_or_ge j r.length with q | q
  . omega
  rw [List.getElem?_eq_none q] at hu; cases hu
 have := (hx.at_ _ rfl (i * k + j) u (by rw [a9s rows hall hj hr]; exact hu)).2
 rw [Nat.add_assoc]; exact this
end
inductive LeafT
 | int (k : IntKind)
 | bool
 | cell (t : TypeId)
def LeafT.ok (R : TypeId -> Value -> Prop) : LeafT -> Value -> Prop
 | .int k, v => ∃ n, v = .int k n ∧ (Lit.int k n).wf = true
 | .bool, v => ∃ b, v = .bool b
 | .cell t, v => R t v
def a7l (R : TypeId -> Value -> Prop) : List LeafT -> List Value -> Prop
 | [], [] => True
 | k :: ks, c :: cs => k.ok R c ∧ a7l R ks cs
 | _, _ => False
section
variable {R : TypeId -> Value -> Prop}
theorem a6Q : ∀ {ks : List LeafT} {cs : List Value}, a7l R ks cs -> cs.length = ks.length
 | [], [], _ => rfl
 | [], _ :: _, h => h.elim
 | _ :: _, [], h => h.elim
 | _ :: ks, _ :: cs, h => by simp [a6Q h.2]
theorem a5f : ∀ {ks ks' : List LeafT} {cs cs' : List Value}, a7l R ks cs -> a7l R ks' cs' -> a7l R (ks ++ ks') (cs ++ cs')
 | [], _, [], _, _, h => h
 | [], _, _ :: _, _, h, _ => h.elim
 | _ :: _, _, [], _, h, _ => h.elim
 | _ :: _, _, _ :: _, _, h, k => ⟨h.1, a5f h.2 k⟩
theorem a3c {k : IntKind} {ks : List LeafT} : ∀ {cs : List Value}, a7l R (.int k :: ks) cs -> ∃ n cs', cs = .int k n :: cs' ∧ (Lit.int k n).wf = true ∧ a7l R ks cs'
 | [], h => h.elim
 | c :: cs, h => by
  obtain ⟨⟨n, rfl, hw⟩, h2⟩ := h;exact ⟨n, cs, rfl, hw, h2⟩
theorem a5g {t : TypeId} {ks : List LeafT} : ∀ {cs : List Value}, a7l R (.cell t :: ks) cs -> ∃ u cs', cs = u :: cs' ∧ R t u ∧ a7l R ks cs'
 | [], h => h.elim
 | c :: cs, h => ⟨c, cs, rfl, h.1, h.2⟩
theorem a6R : ∀ {cs : List Value}, a7l R [] cs -> cs = []
 | [], _ => rfl
 | _ :: _, h => h.elim
end
def a7G (P : Program) (fl : TypeId -> Option (List LeafT)) : List Field -> Nat -> Option (List LeafT)
 | [], _ => some []
 | f :: fs, off =>
  if f.offset = off then
   match fl f.type with
   | some ks => if P.cellsOf f.type = ks.length then
    match a7G P fl fs (off + ks.length) with
    | some rs => some (ks ++ rs)
    | none => none
    else none
   | none => none
  else none
def a7H (P : Program) : Nat -> TypeId -> Option (List LeafT)
 | 0, _ => none
 | n + 1, t =>
  match P.underlying t with
  | some (.int k) => some [.int k]
  | some .bool => some [.bool]
  | some (.slice _) => some [.cell t]
  | some (.struct fs) => match a7G P (a7H P n) fs.toList 0 with
   | some ks => if P.cellsOf t = ks.length then some ks else none
   | none => none
  | _ => none
section
variable {H : Type} {enc : TypeId × Value -> H} {P : Program} {W : World} {base : Nat} {sp : Nat -> Bool} {held : Bool}
def Was (enc : TypeId × Value -> H) (P : Program) (W : World) (base : Nat) (sp : Nat -> Bool) (held : Bool) (N : Nat) (t : TypeId) (u : Value) : Prop := ∃ fuel y, fuel <= N ∧ DataW.trod enc P W base sp held fuel t [u] = some y
theorem a9t {n N : Nat} (ih : ∀ t ks fuel cs x, fuel <= N -> a7H P n t = some ks -> DataW.trod enc P W base sp held fuel t cs = some x -> a7l (Was enc P W base sp held N) ks cs) {m : Nat} (hm : m <= N) {cs : List Value} :
 ∀ (fs : List Field) (off : Nat) (ks : List LeafT), a7G P (a7H P n) fs off = some ks -> (∀ f ∈ fs, ∃ x, DataW.trod enc P W base sp held m f.type ((cs.drop f.offset).take (P.cellsOf f.type)) = some x) -> off + ks.length <= cs.length ->
  a7l (Was enc P W base sp held N) ks ((cs.drop off).take ks.length)
 | [], off, ks, h, _, _ => by
  simp [a7G] at h; subst h;simp [a7l]
 | f :: fs, off, ks, h, hx, hl => by
  unfold a7G at h
  split at h
  . rename_i ho
    split at h
    . rename_i k1 h1
      split at h
      . rename_i hc
        split at h
        . rename_i rs h2
          injection h with h; subst h
          obtain ⟨x, hx1⟩ := hx f (List.mem_cons_self ..);have r1 := ih _ _ _ _ _ hm h1 hx1;rw [List.length_append] at hl;have r2 := a9t ih hm (cs := cs) fs _ _ h2 (fun g hg => hx g (List.mem_cons_of_mem _ hg)) (by omega)
          rw [ho, hc] at r1;rw [List.length_append, List.take_add, List.drop_drop];exact a5f r1 r2
        . cases h
      . cases h
    . cases h
  . cases h
theorem a4d {N : Nat} : ∀ (n : Nat) (t : TypeId) (ks : List LeafT) (fuel : Nat) (cs : List Value) (x : DataW H × List MemPlace), fuel <= N -> a7H P n t = some ks -> DataW.trod enc P W base sp held fuel t cs = some x -> a7l (Was enc P W base sp held N) ks cs
 | 0, _, _, _, _, _, _, h, _ => by unfold a7H at h; cases h
 | n + 1, t, ks, fuel, cs, x, hN, h, hx => by
  unfold a7H at h
  split at h
  . rename_i k hu
    injection h with h; subst h
    obtain ⟨z, rfl, _, hw⟩ := DataW.trod_int hu hx;exact ⟨⟨z, rfl, hw⟩, trivial⟩
  . rename_i hu
    injection h with h; subst h
    obtain ⟨b, rfl, _⟩ := DataW.trod_bool hu hx;exact ⟨⟨b, rfl⟩, trivial⟩
  . rename_i e hu
    injection h with h; subst h
    rcases open_slice hu hx with ⟨rfl, _⟩ | ⟨a, len, cap, m, k, D, Pl, rfl, _⟩ <;> exact ⟨⟨fuel, x, hN, hx⟩, trivial⟩
  . rename_i fs hu
    split at h
    . rename_i k1 h1
      split at h
      . rename_i hc
        injection h with h; subst h
        obtain ⟨xs, m, hfu, _, hl, hlen, hf⟩ := DataW.trod_struct hu hx
        have := a9t (cs := cs) (m := m) (N := N) (a4d n) (by omega) fs.toList 0 k1 h1 (fun f hf' => by
         obtain ⟨i, hi, hif⟩ := List.getElem_of_mem hf';have h3 := hf i f (by simp at hi; rw [Array.getElem?_eq_getElem (by simpa using hi)]; simpa using hif)
         have h4 : i < xs.length := by simp at hi; omega
         rw [List.getElem?_eq_getElem h4] at h3
         exact ⟨_, h3⟩) (by omega)
        rw [List.drop_zero, <- hc, <- hl, List.take_length] at this;exact this
      . cases h
    . cases h
  . cases h
theorem a5h {n : Nat} {t : TypeId} {ks : List LeafT} {fs : Array Field} (hf : a7H P n t = some ks) (hu : P.underlying t = some (.struct fs)) {v : Value} {d : DataW H} {p : List MemPlace} {r : Reach} {b0 : Nat}
 (hv : Value.okWide P W r b0 t v) (h : DataW.Trod enc P W base sp held t v d p) : ∃ (cs : List Value) (N : Nat), v = .agg cs.toArray ∧ a7l (Was enc P W base sp held N) ks cs := by
 obtain ⟨cs, rfl, hsz⟩ := okWide_struct hu hv;obtain ⟨fuel, hf'⟩ := h;refine ⟨cs.toList, fuel, by simp, ?_⟩
 have := a4d _ _ _ _ _ _ (Nat.le_refl _) hf hf';simpa [Value.cells] using this
theorem Was.rows {n N : Nat} {t e : TypeId} {ks : List LeafT} (ht : P.underlying t = some (.slice e)) (hf : a7H P n e = some ks) (hc : P.cellsOf e = ks.length) (hk0 : 0 < ks.length) {u : Value}
 (hx : Was enc P W base sp held N t u) :
 ∃ rows : List (List Value), Rd W ks.length u rows.length rows.flatten ∧ (rows = [] ∨ 0 < N) ∧ ∀ x ∈ rows, a7l (Was enc P W base sp held (N - 1)) ks x := by
 obtain ⟨fuel, y, hN, hx⟩ := hx
 rcases DataW.trod_slice ht hx with ⟨hcs, _⟩ | ⟨x, len, cap, elems, rest, k, hfu, hcs, _, _, hl, hm, hlen, hcell, _, _⟩
 . injection hcs with hcs
   subst hcs;exact ⟨[], Rd.nil _ _, .inl rfl, by simp⟩
 injection hcs with hcs
 subst hcs
 have each0 : ∀ i, i < len -> ∃ cs' y, W.cells? base (x.add (i * P.cellsOf e)) (P.cellsOf e) = some cs' ∧ DataW.trod enc P W base sp held k e cs' = some y := by
  intro i hi;have h1 := hcell i hi;rw [List.getElem?_eq_getElem (by omega), Option.bind_eq_some_iff] at h1
  obtain ⟨cs', q1, q2⟩ := h1;exact ⟨cs', _, q1, q2⟩
 have hspot : 0 < len -> x.spot = none := by
  intro h0;obtain ⟨cs', _, h1, _⟩ := each0 0 h0;rw [hc] at h1;obtain ⟨_, hlen, hce⟩ := World.cells?_some h1;have h3 := hce 0 hk0;rw [List.getElem?_eq_getElem (by omega)] at h3
  have := World.cell?_spot h3;simpa [Addr.add] using this
 have each : ∀ i, i < len -> ∃ cs' : List Value, a7l (Was enc P W base sp held (N - 1)) ks cs' ∧ x.spot = none ∧ ∀ j u, cs'[j]? = some u -> W.cell? ⟨x.block, x.off + (i * ks.length + j), none⟩ = some u := by
  intro i hi;obtain ⟨cs', _, h1, h2⟩ := each0 i hi;rw [hc] at h1;obtain ⟨_, hlen, hce⟩ := World.cells?_some h1;have hrow := a4d (N := N - 1) _ _ _ _ _ _ (by omega) hf h2
  have hs0 := hspot (by omega)
  refine ⟨cs', hrow, hs0, fun j u hu => ?_⟩
  have hj : j < cs'.length := by
   rcases Nat.lt_or_ge j cs'.length with h | h
   . exact h
   rw [List.getElem?_eq_none h] at hu; cases hu
  have h3 := hce j (by omega)
  rw [hu] at h3;obtain ⟨b, o, s⟩ := x;simp only at hs0; subst hs0;rw [<- h3];unfold Addr.add
  repeat' split
  all_goals first | rfl | (simp_all [Nat.add_assoc])
 obtain ⟨q, hq⟩ := choose_lt each
 have hrl : ∀ r ∈ (List.range len).map q, r.length = ks.length := by
  intro r hr;obtain ⟨i, hi, rfl⟩ := List.mem_map.1 hr;exact a6Q (hq i (List.mem_range.1 hi)).1
 refine ⟨(List.range len).map q, ⟨some x, cap, by simp, ?_, by simpa using hl, hm, (fun h => by cases h), fun ad ha j u' hu => ?_⟩, .inr (by omega), ?_⟩
 . rw [a3p _ hrl]
 . injection ha with ha; subst ha
   rw [a3b hk0 _ hrl, Option.bind_eq_some_iff] at hu;obtain ⟨r, h1, h2⟩ := hu;rw [List.getElem?_map, Option.map_eq_some_iff] at h1;obtain ⟨i, h3, rfl⟩ := h1
   have hi : j / ks.length < len := by
    rcases Nat.lt_or_ge (j / ks.length) len with h | h
    . exact h
    rw [List.getElem?_eq_none (by simpa using h)] at h3; cases h3
   rw [List.getElem?_range hi] at h3;injection h3 with h3; subst h3
   obtain ⟨_, hs, hcell'⟩ := hq _ hi;refine ⟨hs, ?_⟩;have := hcell' _ _ h2;have e : j / ks.length * ks.length + j % ks.length = j := by rw [Nat.mul_comm]; exact Nat.div_add_mod j _
   rwa [e] at this
 intro r hr;obtain ⟨i, hi, rfl⟩ := List.mem_map.1 hr;exact (hq i (List.mem_range.1 hi)).1
theorem RS.b5U {β : Type} {w : World} {v : Value} {Q : World -> List Value -> β -> Prop} {k : Nat} {rows : List (List Value)} (h : Rd w k v rows.length rows.flatten) (hx : ∀ r ∈ rows, r.length = k ∧ ∃ x, Q w r x) : ∃ ls : List β, RS k Q w v ls := by
 have each : ∀ (rs : List (List Value)), (∀ r ∈ rs, r.length = k ∧ ∃ x, Q w r x) -> ∃ ls : List β, rs.length = ls.length ∧ ∀ (i : Nat) (r : List Value) (x : β), rs[i]? = some r -> ls[i]? = some x -> r.length = k ∧ Q w r x := by
  intro rs
  induction rs with
  | nil => intro _; exact ⟨[], rfl, fun i r x hr => by simp at hr⟩
  | cons r rs ih =>
  intro h;obtain ⟨ls, h1, h2⟩ := ih fun x hx => h x (List.mem_cons_of_mem _ hx)
  obtain ⟨h3, x, h4⟩ := h r (List.mem_cons_self ..);refine ⟨x :: ls, by simp [h1], fun i r' x' hr hx => ?_⟩
  rcases i with _ | i
  . simp at hr hx; subst hr; subst hx; exact ⟨h3, h4⟩
  simp at hr hx; exact h2 i r' x' hr hx
 obtain ⟨ls, h1, h2⟩ := each rows hx;exact ⟨ls, rows, h, h1, h2⟩
end
end Go.Ox
namespace Go.Ox
open Go.RowKit
section
variable {β : Type}
def b3F (K0 : Nat -> Prop) (v : Value) (w : World) (k : Nat) : Prop := K0 k ∨ v.ownBlock = some k ∨ w.heap.size <= k
structure OS (K0 : Nat -> Prop) (E k base : Nat) (Q : World -> List Value -> β -> Prop) (w : World) (v : Value) (ls : List β) : Prop where
 ex : ∃ rows : List (List Value), w.ownsRow base E k v rows.length rows.flatten ∧ rows.length = ls.length ∧ ∀ (i : Nat) (r : List Value) (x : β), rows[i]? = some r -> ls[i]? = some x -> r.length = k ∧ ∀ W, ExtQ (b3F K0 v w) w W -> Q W r x
variable {K0 : Nat -> Prop} {E k base : Nat} {Q : World -> List Value -> β -> Prop} {w w' : World} {v : Value} {ls : List β}
theorem OS.nil (K0 : Nat -> Prop) (E k base : Nat) (Q : World -> List Value -> β -> Prop) (w : World) : OS K0 E k base Q w (.slice none 0 0) [] := ⟨[], World.ownsRow_nil _ _ _ _, rfl, fun i r x hr => by simp at hr⟩
theorem OS.rs (h : OS K0 E k base Q w v ls) : RS k Q w v ls := by
 obtain ⟨rows, h1, h2, h3⟩ := h.ex;exact ⟨rows, Rd.a4u h1, h2, fun i r x hr hx => ⟨(h3 i r x hr hx).1, (h3 i r x hr hx).2 w (ExtQ.refl _ _)⟩⟩
theorem OS.form (h : OS K0 E k base Q w v ls) : ∃ A c, v = .slice A ls.length c := h.rs.form
theorem OS.lt (h : OS K0 E k base Q w v ls) {g : Nat} (hg : v.ownBlock = some g) : base <= g ∧ g < w.heap.size := by
 obtain ⟨rows, h1, -⟩ := h.ex;exact h1.lt g hg
theorem OS.a18 {K : Nat -> Prop} (h : OS K0 E k base Q w v ls) (he : ExtQ K w w') (hK : ∀ j, K j -> K0 j ∨ w.heap.size <= j) (h0 : ∀ g, v.ownBlock = some g -> ¬ K0 g) : OS K0 E k base Q w' v ls := by
 obtain ⟨rows, h1, h2, h3⟩ := h.ex;refine ⟨rows, a0e h1 he fun g hg q => ?_, h2, fun i r x hr hx => ⟨(h3 i r x hr hx).1, fun W hW => (h3 i r x hr hx).2 W ?_⟩⟩
 . rcases hK g q with q | q
   . exact h0 g hg q
   have := (h1.lt g hg).2; omega
 refine (he.mono fun j hj => (hK j hj).imp_right .inr).trans (hW.mono fun j hj => ?_)
 rcases hj with hj | hj | hj
 . exact .inl hj
 . exact .inr (.inl hj)
 exact .inr (.inr (Nat.le_trans he.size hj))
theorem OS.ext (h : OS K0 E k base Q w v ls) (he : Ext w w') : OS K0 E k base Q w' v ls := by
 obtain ⟨rows, h1, h2, h3⟩ := h.ex;refine ⟨rows, a2q h1 he, h2, fun i r x hr hx => ⟨(h3 i r x hr hx).1, fun W hW => (h3 i r x hr hx).2 W ?_⟩⟩
 refine (ExtQ.of he).trans (hW.mono fun j hj => ?_)
 rcases hj with hj | hj | hj
 . exact .inl hj
 . exact .inr (.inl hj)
 exact .inr (.inr (Nat.le_trans he.size hj))
theorem OS.appd {v' : Value} {rows : List (List Value)} {r : List Value} {y : β} (h2 : rows.length = ls.length)
 (h3 : ∀ (i : Nat) (r : List Value) (x : β), rows[i]? = some r -> ls[i]? = some x -> r.length = k ∧ ∀ W, ExtQ (b3F K0 v w) w W -> Q W r x)
 (ha : Appended w w' base E k v v' rows.length 1 rows.flatten r) (hrk : r.length = k) (hq : ∀ W, ExtQ (b3F K0 v w) w W -> Q W r y) : OS K0 E k base Q w' v' (ls ++ [y]) := by
 refine ⟨rows ++ [r], ?_, by simp [h2], fun i r' x' hr' hx' => ?_⟩
 . rw [List.length_append, List.flatten_append, List.flatten_singleton]
   exact ha.own
 have step : ∀ W, ExtQ (b3F K0 v' w') w' W -> ExtQ (b3F K0 v w) w W := fun W hW => by
  refine (ExtQ.grown (Q := b3F K0 v w) ha.grown fun j hj => .inr (.inl hj)).trans (hW.mono fun j hj => ?_)
  rcases hj with hj | hj | hj
  . exact .inl hj
  . rcases ha.at_ with q | q
    . exact .inr (.inl (q ▸ hj))
    rw [q] at hj; injection hj with hj; exact .inr (.inr (by omega))
  . exact .inr (.inr (Nat.le_trans ha.grown.size hj))
 rcases Nat.lt_or_ge i rows.length with hi | hi
 . rw [List.getElem?_append_left hi] at hr'
   rw [List.getElem?_append_left (by omega)] at hx'
   exact ⟨(h3 i r' x' hr' hx').1, fun W hW => (h3 i r' x' hr' hx').2 W (step W hW)⟩
 have hi2 : i = rows.length := by
  rcases Nat.lt_or_ge i (rows.length + 1) with q | q
  . omega
  . rw [List.getElem?_eq_none (by simp; omega)] at hr'; cases hr'
 subst hi2;rw [List.getElem?_append_right (Nat.le_refl _), Nat.sub_self] at hr';rw [h2, List.getElem?_append_right (Nat.le_refl _), Nat.sub_self] at hx';simp at hr' hx';subst hr'; subst hx';exact ⟨hrk, fun W hW => hq W (step W hW)⟩
theorem a8E {P : Program} {t e : TypeId} {z : Value} {bytes : Nat} {ops : Array Oper} {rest : List Oper} {o : Oper} {a : Act} {Qx : Exit -> Act -> World -> Prop} (hgd : o.guard = none) (el : Elem P t e z k bytes) (w : World) (s x : Operand)
 (ho : o.op = .call { callee := .builtin .append, args := #[s, x], argTypes := #[t, t] })
 (base : Nat) (v vx : Value) (l : List β) (hs : a.eval s = v) (hown : OS K0 e k base Q w v l) (hx : a.eval x = vx) (r : List Value) (y : β) (hr : Rd w k vx 1 r) (hr1 : ∀ u ∈ r, u.oneCell' = true) (hrk : r.length = k)
 (hq : ∀ W, ExtQ (b3F K0 v w) w W -> Q W r y)
 (hb : (l.length + 1) * bytes <= 140737488355328) (hm : l.length + 1 <= maxLen) (hbase : base <= w.heap.size)
 (h : ∀ v' w', OS K0 e k base Q w' v' (l ++ [y]) -> w.grownBy w' v.ownBlock -> wpList P ops Qx rest (a.put o.dst v') w') : wpList P ops Qx (o :: rest) a w := by
 obtain ⟨rows, h1, h2, h3⟩ := hown.ex;exact a0v hgd el w s x ho base v rows.length rows.flatten hs h1 vx 1 r hx hr hr1 (by rw [h2]; exact hb) (by rw [h2]; exact hm) hbase fun v' w' ha => h v' w' (OS.appd h2 h3 ha hrk hq) ha.grown
theorem b5V {P : Program} {t e : TypeId} {z : Value} {bytes : Nat} {o : Oper} {a : Act} {Kx : Act -> World -> Prop} {Qx : Exit -> Act -> World -> Prop} (el : Elem P t e z k bytes) (w : World) (s x : Operand)
 (ho : o.op = .call { callee := .builtin .append, args := #[s, x], argTypes := #[t, t] })
 (base : Nat) (v vx : Value) (l : List β) (hs : a.eval s = v) (hown : OS K0 e k base Q w v l) (hx : a.eval x = vx) (r : List Value) (y : β) (hr : Rd w k vx 1 r) (hr1 : ∀ u ∈ r, u.oneCell' = true) (hrk : r.length = k)
 (hq : ∀ W, ExtQ (b3F K0 v w) w W -> Q W r y)
 (hb : (l.length + 1) * bytes <= 140737488355328) (hm : l.length + 1 <= maxLen) (hbase : base <= w.heap.size)
 (h : ∀ v' w', OS K0 e k base Q w' v' (l ++ [y]) -> w.grownBy w' v.ownBlock -> Kx (a.put o.dst v') w') : o.wp P a w Kx Qx := by
 obtain ⟨rows, h1, h2, h3⟩ := hown.ex;exact a7q el w s x ho base v rows.length rows.flatten hs h1 vx 1 r hx hr hr1 (by rw [h2]; exact hb) (by rw [h2]; exact hm) hbase fun v' w' ha => h v' w' (OS.appd h2 h3 ha hrk hq) ha.grown
end
end Go.Ox
namespace Go.Ox.Gr
inductive Nd
 | mk (op : Int) (ins : List Int) (kind fa a : Int) (body : List Nd)
def Nd.op : Nd -> Int | .mk o _ _ _ _ _ => o
def Nd.ins : Nd -> List Int | .mk _ i _ _ _ _ => i
def Nd.kind : Nd -> Int | .mk _ _ k _ _ _ => k
def Nd.fa : Nd -> Int | .mk _ _ _ f _ _ => f
def Nd.a : Nd -> Int | .mk _ _ _ _ a _ => a
def Nd.body : Nd -> List Nd | .mk _ _ _ _ _ b => b
instance : Inhabited Nd := ⟨.mk 0 [] 0 0 0 []⟩
def fk (k : Int) : Int := if k < 1 then 0 else if k <= 8 then 1 else if k <= 12 then 2 else if k <= 15 then 3 else if k <= 19 then 4 else if k <= 23 then 5 else 0
def lst (k : Int) : Int := if k = 4 ∨ k = 5 ∨ k = 6 then 1 else 0
def mst (k : Int) : Int := if k = 1 ∨ k = 2 ∨ k = 4 ∨ k = 5 ∨ k = 6 ∨ k = 7 ∨ k = 8 ∨ k = 9 ∨ k = 10 ∨ k = 11 then 1048575 else if k = 13 ∨ k = 14 then 8 else 0
def fam (k a : Int) : Int := if a < lst k ∨ mst k < a then 0 else fk k
def arity (op : Int) : Int := if op = 2 ∨ op = 3 ∨ op = 4 ∨ op = 5 ∨ op = 7 ∨ op = 9 then 1 else if op = 6 ∨ op = 8 then 2 else 0
def a2I (op : Int) : Int := if op = 2 then 1 else if op = 3 then 2 else if op = 4 then 3 else if op = 5 then 4 else if op = 6 then 5 else 0
def a5N (op : Int) : Bool := decide (1 <= op) && decide (op <= 11)
def a2j (ins : List Int) (i : Nat) : Bool := ins.all fun x => decide (0 <= x) && decide (x < (i : Int))
def b3G (n : Nd) : Bool := if a2I n.op = 0 then decide (n.kind = 0) && decide (n.fa = 0) else decide (fam n.kind n.fa = a2I n.op)
def a2J (n : Nd) (loop : Int) : Bool :=
 if n.op = 1 then decide (loop < 0) && (decide (0 <= n.a) && decide (n.a < 4))
 else if n.op = 9 then decide (loop < 0) && (decide (1 <= n.a) && decide (n.a <= 64))
 else if n.op = 10 then decide (0 <= loop) && decide (n.a = 0)
 else if n.op = 11 then decide (0 <= loop) && (decide (0 <= n.a) && decide (n.a < loop))
 else decide (n.a = 0)
def base (n : Nd) (i : Nat) : Bool := a5N n.op && (decide ((n.ins.length : Int) = arity n.op) && a2j n.ins i)
def each (f : Nd -> Nat -> Bool) : List Nd -> Nat -> Bool
 | [], _ => true
 | n :: l, i => f n i && each f l (i + 1)
theorem a6S (f : Nd -> Nat -> Bool) : ∀ (l r : List Nd) (i : Nat), each f (l ++ r) i = (each f l i && each f r (i + l.length))
 | [], r, i => by simp [each]
 | n :: l, r, i => by
  simp only [List.cons_append, each, a6S f l r (i + 1), List.length_cons, Bool.and_assoc];rw [show i + 1 + l.length = i + (l.length + 1) by omega]
theorem a9u (f : Nd -> Nat -> Bool) (l : List Nd) {k : Nat} (h : k < l.length) : each f (l.take (k + 1)) 0 = (each f (l.take k) 0 && f l[k] k) := by
 rw [List.take_succ_eq_append_getElem h, a6S];have : (l.take k).length = k := by rw [List.length_take]; omega
 rw [this, Nat.zero_add];simp [each]
theorem a8F (f : Nd -> Nat -> Bool) (l : List Nd) {k : Nat} (h : k < l.length) (hf : f l[k] k = false) : each f l 0 = false := by
 have e : l = l.take (k + 1) ++ l.drop (k + 1) := (List.take_append_drop ..).symm;have h2 := a9u f l h;rw [hf, Bool.and_false] at h2;rw [e, a6S, h2, Bool.false_and]
def b3H (loop : Nat) (n : Nd) (i : Nat) : Bool := base n i && (b3G n && (a2J n loop && n.body.isEmpty))
def a2k (l : List Nd) (loop : Nat) : Bool := decide (1 <= l.length) && (decide (l.length <= 32) && each (b3H loop) l 0)
def a5i (n : Nd) (i : Nat) : Bool := base n i && (b3G n && (a2J n (-1) && (if n.op = 9 then a2k n.body i else n.body.isEmpty)))
def a3C (l : List Nd) : Bool := decide (1 <= l.length) && (decide (l.length <= 32) && each a5i l 0)
def loops (l : List Nd) : Nat := (l.filter fun n => decide (n.op = 9)).length
theorem b1D (l : List Nd) {k : Nat} (h : k < l.length) : loops (l.take (k + 1)) = loops (l.take k) + (if l[k].op = 9 then 1 else 0) := by
 unfold loops;rw [List.take_succ_eq_append_getElem h, List.filter_append, List.length_append]
 congr 1
 by_cases q : l[k].op = 9 <;> simp [q]
theorem a9v (l : List Nd) (k : Nat) : loops (l.take k) <= k := Nat.le_trans (List.length_filter_le _ _) (by rw [List.length_take]; omega)
abbrev G := List Nd × Int
def gOk (g : G) : Bool := a3C g.1 && (decide (0 <= g.2) && (decide (g.2 < (g.1.length : Int)) && decide (loops g.1 <= 1)))
theorem b0r (k : Int) : 0 <= a2I k ∧ a2I k <= 5 := by unfold a2I; repeat' split <;> omega
theorem a1P (k : Int) : 0 <= arity k ∧ arity k <= 2 := by unfold arity; repeat' split <;> omega
def a0k : List Nd -> Nat -> Int
 | [], _ => -1
 | n :: l, i => if n.op = 9 then (i : Int) else a0k l (i + 1)
def a05 (l : List Nd) : Int := a0k l 0
theorem a15 {n : Nd} {l : List Nd} {i : Nat} (h : n.op = 9) : a0k (n :: l) i = (i : Int) := if_pos h
theorem a10 {n : Nd} {l : List Nd} {i : Nat} (h : ¬ n.op = 9) : a0k (n :: l) i = a0k l (i + 1) := if_neg h
theorem a2S : ∀ (l r : List Nd) (i : Nat), a0k (l ++ r) i = if a0k l i = -1 then a0k r (i + l.length) else a0k l i
 | [], r, i => by rw [if_pos (show a0k [] i = -1 from rfl)]; rfl
 | n :: l, r, i => by
  rw [List.cons_append, List.length_cons]
  by_cases h : n.op = 9
  . rw [a15 h, a15 h, if_neg (by omega)]
  . rw [a10 h, a10 h, a2S l r (i + 1), show i + 1 + l.length = i + (l.length + 1) by omega]
theorem a6T (l : List Nd) {k : Nat} (h : k < l.length) (hn : a05 (l.take k) = -1) : a05 (l.take (k + 1)) = if l[k].op = 9 then (k : Int) else -1 := by
 unfold a05 at *;rw [List.take_succ_eq_append_getElem h, a2S, if_pos hn, List.length_take, Nat.zero_add, Nat.min_eq_left (by omega)]
 rfl
theorem a6e (l : List Nd) {k : Nat} (h : k < l.length) (hn : a05 (l.take k) = -1) (h9 : l[k].op = 9) : a05 l = (k : Int) := by
 have h2 := a6T l h hn;rw [if_pos h9] at h2;unfold a05 at *;rw [<- List.take_append_drop (k + 1) l, a2S, h2, if_neg (by omega)]
theorem a1p : ∀ (l : List Nd) (i : Nat), a0k l i = -1 ∨ ((i : Int) <= a0k l i ∧ a0k l i < (i : Int) + (l.length : Int))
 | [], i => .inl rfl
 | n :: l, i => by
  by_cases h : n.op = 9
  . rw [a15 h]; exact .inr ⟨Int.le_refl _, by rw [List.length_cons]; omega⟩
  . rw [a10 h]
    rcases a1p l (i + 1) with q | q
    . exact .inl q
    . refine .inr ⟨by omega, ?_⟩
      rw [List.length_cons]; omega
theorem a1w (l : List Nd) : a05 l = -1 ∨ (0 <= a05 l ∧ a05 l < (l.length : Int)) := by
 have := a1p l 0;unfold a05;simpa using this
abbrev Pl := Int × Int
def plN (i n : Nat) : List Pl := ((i : Int), -1) :: (List.range n).map fun (k : Nat) => ((i : Int), (k : Int))
theorem plN_s (i n : Nat) : plN i (n + 1) = plN i n ++ [((i : Int), (n : Int))] := by
 unfold plN;rw [List.range_succ, List.map_append];rfl
theorem a8G (i n : Nat) : (plN i n).length = n + 1 := by unfold plN; simp
def a0i : List Nd -> Nat -> List Pl
 | [], _ => []
 | n :: l, i => plN i n.body.length ++ a0i l (i + 1)
def a0a (l : List Nd) : List Pl := a0i l 0
theorem a6f : ∀ (l r : List Nd) (i : Nat), a0i (l ++ r) i = a0i l i ++ a0i r (i + l.length)
 | [], r, i => by simp [a0i]
 | n :: l, r, i => by
  simp only [List.cons_append, a0i, List.length_cons, a6f l r (i + 1), List.append_assoc];rw [show i + 1 + l.length = i + (l.length + 1) by omega]
theorem a9w (l : List Nd) {k : Nat} (h : k < l.length) : a0a (l.take (k + 1)) = a0a (l.take k) ++ plN k l[k].body.length := by
 unfold a0a;rw [List.take_succ_eq_append_getElem h, a6f, List.length_take, Nat.min_eq_left (by omega), Nat.zero_add]
 simp [a0i]
theorem a0F {p : Pl} : ∀ {l : List Nd} {i : Nat}, p ∈ a0i l i ↔ ∃ (k : Nat) (h : k < l.length), p.1 = ((i + k : Nat) : Int) ∧ (p.2 = -1 ∨ (0 <= p.2 ∧ p.2 < (l[k].body.length : Int)))
 | [], i => by simp [a0i]
 | n :: l, i => by
  unfold a0i;rw [List.mem_append, a0F (l := l) (i := i + 1)];constructor
  . rintro (h | ⟨k, hk, h1, h2⟩)
    . refine ⟨0, by simp, ?_⟩
      unfold plN at h;rw [List.mem_cons, List.mem_map] at h
      rcases h with rfl | ⟨j, hj, rfl⟩
      . exact ⟨by simp, .inl rfl⟩
      . have := List.mem_range.1 hj
        exact ⟨by simp, .inr ⟨by simp, by simp; exact this⟩⟩
    . exact ⟨k + 1, by simp; exact hk, by rw [h1]; congr 1; omega, by simpa using h2⟩
  . rintro ⟨k, hk, h1, h2⟩
    cases k with
    | zero =>
     refine .inl ?_;unfold plN;rw [List.mem_cons, List.mem_map];obtain ⟨p1, p2⟩ := p;simp at h1 h2
     rcases h2 with h2 | ⟨h2, h3⟩
     . exact .inl (by rw [h1, h2])
     . refine .inr ⟨p2.toNat, List.mem_range.2 (by omega), ?_⟩
       rw [h1];exact Prod.ext rfl (by simp; omega)
    | succ k =>
     refine .inr ⟨k, by simpa using hk, by rw [h1]; congr 1; omega, by simpa using h2⟩
def nodeAt (l : List Nd) (p : Pl) : Option Nd :=
 if 0 <= p.1 then
  match l[p.1.toNat]? with
  | none => none
  | some n => if p.2 = -1 then some n else if 0 <= p.2 then n.body[p.2.toNat]? else none
 else none
theorem a2l {l : List Nd} {p : Pl} : p ∈ a0a l ↔ (nodeAt l p).isSome = true := by
 unfold a0a;rw [a0F];unfold nodeAt;constructor
 . rintro ⟨k, hk, h1, h2⟩
   rw [Nat.zero_add] at h1;rw [if_pos (by omega), show p.1.toNat = k by omega, List.getElem?_eq_getElem hk]
   rcases h2 with h2 | ⟨h2, h3⟩
   . simp [h2]
   simp only;rw [if_neg (by omega), if_pos h2, List.getElem?_eq_getElem (by omega)]; rfl
 intro h
 by_cases h0 : 0 <= p.1
 . rw [if_pos h0] at h
   cases hn : l[p.1.toNat]? with
   | none => rw [hn] at h; cases h
   | some n =>
   rw [hn] at h;obtain ⟨hk, hkn⟩ := List.getElem?_eq_some_iff.1 hn;refine ⟨p.1.toNat, hk, by omega, ?_⟩
   rw [hkn];simp only at h
   by_cases h1 : p.2 = -1
   . exact .inl h1
   rw [if_neg h1] at h
   by_cases h2 : 0 <= p.2
   . rw [if_pos h2] at h
     obtain ⟨x, hx⟩ := Option.isSome_iff_exists.1 h;obtain ⟨hj, _⟩ := List.getElem?_eq_some_iff.1 hx;exact .inr ⟨h2, by omega⟩
   rw [if_neg h2] at h; cases h
 rw [if_neg h0] at h; cases h
end Go.Ox.Gr
namespace Go.Ox
open Go.RowKit
instance encInt : Enc Int where
 k := 1
 enc x := [.int .i64 x]
 len _ := rfl
 pos := by omega
 one x u hu := by simp at hu; subst hu; rfl
theorem ri1 {w : World} {A : Option Addr} {n c : Nat} {l : List Int} (h : RE w (.slice A n c) l) {k : Nat} (hk : k < l.length) :
 ∃ b o, A = some ⟨b, o, none⟩ ∧ w.cell? ⟨b, o + k, none⟩ = some (.int .i64 l[k]) := by
 obtain ⟨b, o, e, h2⟩ := h.at_ hk;have := h2 0 _ rfl;refine ⟨b, o, e, ?_⟩;rw [<- this]
 congr 2
 show o + k = o + k * 1 + 0;omega
namespace Gr
def NdQ (NR : World -> Value -> List Nd -> Prop) (w : World) (r : List Value) (n : Nd) : Prop :=
 ∃ u b, r = [.int .i64 n.op, u, .int .i64 n.kind, .int .i64 n.fa, .int .i64 n.a, b] ∧ RE w u n.ins ∧ NR w b n.body
def a00 : Nat -> World -> Value -> List Nd -> Prop
 | 0 => RS 6 fun _ _ _ => False
 | d + 1 => RS 6 (NdQ (a00 d))
section
variable {w w' : World} {v : Value} {l : List Nd} {d : Nat}
theorem a00.ext : ∀ {d : Nat} {v : Value} {l : List Nd}, a00 d w v l -> Ext w w' -> a00 d w' v l
 | 0, v, l, h, he => RS.ext h (fun _ _ _ q => q) he
 | d + 1, v, l, h, he => RS.ext h (fun r x _ ⟨u, b, h1, h2, h3⟩ => ⟨u, b, h1, RE.ext h2 he, a00.ext h3 he⟩) he
theorem a00.form : ∀ {d : Nat} {v : Value} {l : List Nd}, a00 d w v l -> ∃ A c, v = .slice A l.length c
 | 0, _, _, h => RS.form h
 | _ + 1, _, _, h => RS.form h
theorem a00.nil (d : Nat) (w : World) : a00 d w (.slice none 0 0) [] := by
 cases d with
 | zero => exact RS.nil _ _ _
 | succ d => exact RS.nil _ _ _
theorem a00.zero (h : a00 0 w v l) : l = [] := by
 obtain ⟨rows, h1, h2, h3⟩ := RS.ex h
 cases l with
 | nil => rfl
 | cons x l =>
 obtain ⟨r, hr⟩ : ∃ r, rows[0]? = some r := ⟨rows[0]'(by rw [h2]; simp), List.getElem?_eq_getElem (by rw [h2]; simp)⟩
 exact (h3 0 r x hr rfl).2.elim
theorem a00.up : ∀ {d : Nat} {v : Value} {l : List Nd}, a00 d w v l -> a00 (d + 1) w v l
 | 0, v, l, h => RS.map h fun _ _ _ q => q.elim
 | d + 1, v, l, h => RS.map h fun r x _ ⟨u, b, h1, h2, h3⟩ => ⟨u, b, h1, h2, a00.up h3⟩
theorem a00.le {e : Nat} (h : a00 d w v l) (he : d <= e) : a00 e w v l := by
 induction he with
 | refl => exact h
 | step _ ih => exact ih.up
theorem a00.at_ {A : Option Addr} {n c : Nat} (h : a00 d w (.slice A n c) l) {i : Nat} (hi : i < l.length) :
 ∃ b o u bv, A = some ⟨b, o, none⟩ ∧ w.cell? ⟨b, o + i * 6, none⟩ = some (.int .i64 l[i].op) ∧ w.cell? ⟨b, o + i * 6 + 1, none⟩ = some u ∧ w.cell? ⟨b, o + i * 6 + 2, none⟩ = some (.int .i64 l[i].kind) ∧
  w.cell? ⟨b, o + i * 6 + 3, none⟩ = some (.int .i64 l[i].fa) ∧ w.cell? ⟨b, o + i * 6 + 4, none⟩ = some (.int .i64 l[i].a) ∧ w.cell? ⟨b, o + i * 6 + 5, none⟩ = some bv ∧ RE w u l[i].ins ∧ a00 (d - 1) w bv l[i].body := by
 cases d with
 | zero =>
  have := a00.zero h;subst this;simp at hi
 | succ d =>
  obtain ⟨b, o, r, hA, hr, ⟨u, bv, h1, h2, h3⟩, hc⟩ := RS.at_ h (by omega) hi
  subst h1;exact ⟨b, o, u, bv, hA, hc 0 _ rfl, hc 1 _ rfl, hc 2 _ rfl, hc 3 _ rfl, hc 4 _ rfl, hc 5 _ rfl, h2, h3⟩
end
theorem a00.b0s {w : World} {v : Value} {l : List Nd} {d : Nat} (h : RS 6 (NdQ (a00 d)) w v l) : a00 (d + 1) w v l := h
end Gr
end Go.Ox
namespace Go.Proofs.YtdkejfjcchlnpaaGreat
open Go.RowKit Go.Ox Go.Ox.Gr
abbrev fnV (k a : Int) : Value := .agg #[.int .i64 k, .int .i64 a]
theorem eqInF (a b c d : Int) (w : World) : (Op.equalIn 10000 99 (fnV a b) (fnV c d)).run Tryz.prog w = .ok ((a == c) && (b == d)) w := by
 have u3 := Tryz.underlying3;have a3 := Tryz.isAgg3;have z3 := Tryz.sizeOf3;have hS : Tryz.prog.underlying 99 = some (.struct (Tryz.prog.fieldsOf 99)) := by kernel_rfl
 have hp : Tryz.prog.stoodInHeld 99 = false := by kernel_rfl
 rw [show (10000 : Nat) = 9999 + 1 from rfl, run_equalIn_agg w 9999 99 _ _ hS hp];simp only [Program.fieldsOf, Tryz.underlying99];go_simp
 by_cases h1 : a = c <;> by_cases h2 : b = d <;> simp [h1, h2]
theorem eqF (a b c d : Int) (w : World) : (binOp .eql 99 (fnV a b) (fnV c d)).run Tryz.prog w = .ok (.bool ((a == c) && (b == d))) w := by
 rw [run_eql_struct, eqInF]; rfl
theorem kinds (k : Int) : k = 1 ∨ k = 2 ∨ k = 3 ∨ k = 4 ∨ k = 5 ∨ k = 6 ∨ k = 7 ∨ k = 8 ∨ k = 9 ∨ k = 10 ∨ k = 11 ∨ k = 12 ∨ k = 13 ∨ k = 14 ∨ k = 15 ∨ k = 16 ∨ k = 17 ∨ k = 18 ∨ k = 19 ∨ k = 20 ∨ k = 21 ∨ k = 22 ∨ k = 23 ∨ (k < 1 ∨ 23 < k) := by omega
theorem b5W (k : Int) : k = 1 ∨ k = 2 ∨ k = 3 ∨ k = 4 ∨ k = 5 ∨ k = 6 ∨ k = 7 ∨ k = 8 ∨ k = 9 ∨ k = 10 ∨ k = 11 ∨ (k < 1 ∨ 11 < k) := by omega
theorem b3U (k : Int) (w : World) : Calls Tryz.prog 194 #[.int .i64 k] w fun e w' => e = .returned (.tuple #[.int .i64 (lst k), .int .i64 (mst k)]) ∧ w = w' := by
 rcases kinds k with rfl | rfl | rfl | rfl | rfl | rfl | rfl | rfl | rfl | rfl | rfl | rfl | rfl | rfl | rfl | rfl | rfl | rfl | rfl | rfl | rfl | rfl | rfl | hk
 case' inr.inr.inr.inr.inr.inr.inr.inr.inr.inr.inr.inr.inr.inr.inr.inr.inr.inr.inr.inr.inr.inr.inr =>
  have e1 : lst k = 0 := if_neg (by omega)
  have e2 : mst k = 0 := by unfold mst; rw [if_neg (by omega), if_neg (by omega)]
  rw [e1, e2];clear e1 e2;have n1 : ¬ k = 1 := by omega
  have n2 : ¬ k = 2 := by omega
  have n3 : ¬ k = 3 := by omega
  have n4 : ¬ k = 4 := by omega
  have n5 : ¬ k = 5 := by omega
  have n6 : ¬ k = 6 := by omega
  have n7 : ¬ k = 7 := by omega
  have n8 : ¬ k = 8 := by omega
  have n9 : ¬ k = 9 := by omega
  have n10 : ¬ k = 10 := by omega
  have n11 : ¬ k = 11 := by omega
  have n12 : ¬ k = 12 := by omega
  have n13 : ¬ k = 13 := by omega
  have n14 : ¬ k = 14 := by omega
  have n15 : ¬ k = 15 := by omega
  have n16 : ¬ k = 16 := by omega
  have n17 : ¬ k = 17 := by omega
  have n18 : ¬ k = 18 := by omega
  have n19 : ¬ k = 19 := by omega
  have n20 : ¬ k = 20 := by omega
  have n21 : ¬ k = 21 := by omega
  have n22 : ¬ k = 22 := by omega
  have n23 : ¬ k = 23 := by omega
  clear hk
 all_goals
  go_enter Tryz.func194, Tryz.ntmps194
  go_wp2
  go_ret2
  exact ⟨rfl, rfl⟩
theorem b5m (k : Int) (w : World) : Calls Tryz.prog 191 #[.int .i64 k] w fun e w' => e = .returned (.int .i64 (fk k)) ∧ w = w' := by
 unfold fk
 by_cases h0 : k < 1
 . rw [if_pos h0]
   go_enter Tryz.func191, Tryz.ntmps191
   go_wp2
   go_ret
   exact ⟨rfl, rfl⟩
 rw [if_neg h0]
 by_cases h1 : k <= 8
 . rw [if_pos h1]
   go_enter Tryz.func191, Tryz.ntmps191
   go_wp2
   go_ret
   exact ⟨rfl, rfl⟩
 rw [if_neg h1]
 by_cases h2 : k <= 12
 . rw [if_pos h2]
   go_enter Tryz.func191, Tryz.ntmps191
   go_wp2
   go_ret
   exact ⟨rfl, rfl⟩
 rw [if_neg h2]
 by_cases h3 : k <= 15
 . rw [if_pos h3]
   go_enter Tryz.func191, Tryz.ntmps191
   go_wp2
   go_ret
   exact ⟨rfl, rfl⟩
 rw [if_neg h3]
 by_cases h4 : k <= 19
 . rw [if_pos h4]
   go_enter Tryz.func191, Tryz.ntmps191
   go_wp2
   go_ret
   exact ⟨rfl, rfl⟩
 rw [if_neg h4]
 by_cases h5 : k <= 23
 . rw [if_pos h5]
   go_enter Tryz.func191, Tryz.ntmps191
   go_wp2
   go_ret
   exact ⟨rfl, rfl⟩
 rw [if_neg h5]
 go_enter Tryz.func191, Tryz.ntmps191
 go_wp2
 go_ret
 exact ⟨rfl, rfl⟩
def fnE (k a : Int) : Int := if fk k = 0 ∨ a < lst k ∨ mst k < a then 160 else 0
theorem b5X (k a : Int) (w : World) : Calls Tryz.prog 190 #[fnV k a] w fun e w' => e = .returned (.int .i64 (fnE k a)) ∧ Ext w w' := by
 have HB := hid (fun w => b3U k w)
 have HK := hid (fun w => b5m k w)
 have HX0 := hid ((Ext.refl w).alloc (.cells #[.int .i64 k, .int .i64 a] 99));have hb := Blk.new w 99 #[.int .i64 k, .int .i64 a];have c0 : (w.alloc (.cells #[.int .i64 k, .int .i64 a] 99)).cell? ⟨w.heap.size, 0, none⟩ = some (.int .i64 k) := hb.cell 0;have c1 : (w.alloc (.cells #[.int .i64 k, .int .i64 a] 99)).cell? ⟨w.heap.size, 1, none⟩ = some (.int .i64 a) := hb.cell 1;clear hb;have HQ := hid (show (fk k = 0 -> fnE k a = 160) ∧ (a < lst k -> fnE k a = 160) ∧ (mst k < a -> fnE k a = 160) ∧ (¬ fk k = 0 -> ¬ a < lst k -> ¬ mst k < a -> fnE k a = 0) from ⟨fun h => if_pos (.inl h), fun h => if_pos (.inr (.inl h)), fun h => if_pos (.inr (.inr h)), fun h1 h2 h3 => if_neg fun q => q.elim h1 fun q => q.elim h2 h3⟩)
 generalize fnE k a = er at *;generalize lst k = lo at *;generalize mst k = hi at *;generalize fk k = f at *
 go_enter Tryz.func190, Tryz.ntmps190
 go_upto_region 1 with fail
 generalize w.heap.size = p at *;generalize w.alloc (.cells #[.int .i64 k, .int .i64 a] 99) = w0 at *
 go_wp2_with fail
 refine (HB.o _).mono ?_;rintro e w' ⟨rfl, rfl⟩
 go_wp2_with fail
 refine (HK.o _).mono ?_;rintro e w' ⟨rfl, rfl⟩
 by_cases h1 : f = 0
 . have HE := hid (HQ.o.1 h1)
   go_wp2
   go_ret
   exact ⟨by rw [HE.o]; rfl, HX0.o⟩
 by_cases h2 : a < lo
 . have HE := hid (HQ.o.2.1 h2)
   have hb : (f == 0) = false := by simpa using h1
   go_wp2
   go_ret
   exact ⟨by rw [HE.o]; rfl, HX0.o⟩
 by_cases h3 : hi < a
 . have HE := hid (HQ.o.2.2.1 h3)
   have hb : (f == 0) = false := by simpa using h1
   go_wp2
   go_ret
   exact ⟨by rw [HE.o]; rfl, HX0.o⟩
 have HE := hid (HQ.o.2.2.2 h1 (by omega) (by omega))
 have hb : (f == 0) = false := by simpa using h1
 clear h1
 go_wp2
 go_ret
 exact ⟨by rw [HE.o]; rfl, HX0.o⟩
theorem fam_e (k a : Int) : fam k a = if fnE k a = 0 then fk k else 0 := by
 unfold fam fnE
 by_cases h1 : fk k = 0
 . rw [h1]; simp
 by_cases h2 : a < lst k ∨ mst k < a
 . rw [if_pos h2, if_pos (show fk k = 0 ∨ a < lst k ∨ mst k < a from .inr h2)]; simp
 rw [if_neg h2, if_neg (show ¬ (fk k = 0 ∨ a < lst k ∨ mst k < a) from fun q => q.elim h1 h2), if_pos rfl]
theorem b3V (k a : Int) (w : World) : Calls Tryz.prog 181 #[fnV k a] w fun e w' => e = .returned (.int .i64 (fam k a)) ∧ Ext w w' := by
 have HC := hid (fun w => b5X k a w)
 have HK := hid (fun w => b5m k w)
 have HX0 := hid ((Ext.refl w).alloc (.cells #[.int .i64 k, .int .i64 a] 99));have HB := hid (Blk.new w 99 #[.int .i64 k, .int .i64 a]);have HQ := hid (fam_e k a);generalize fam k a = fm at *;generalize fnE k a = er at *;generalize fk k = f at *
 go_enter Tryz.func181, Tryz.ntmps181
 go_upto_region 1 with fail
 generalize w.heap.size = p at *;generalize w.alloc (.cells #[.int .i64 k, .int .i64 a] 99) = w0 at *;have c0 := HB.o.c0;have c1 := HB.o.c1
 go_wp2_with fail
 refine (HC.o _).mono ?_;rintro e w1 ⟨rfl, he1⟩;have d0 := he1.cell c0;have HX1 := hid (HX0.o.trans he1);clear he1 c0 c1
 by_cases h : er = 0
 . rw [if_pos h] at HQ
   subst h
   go_wp2_with fail
   refine (HK.o _).mono ?_;rintro e w' ⟨rfl, rfl⟩
   go_wp2
   go_ret
   exact ⟨by rw [HQ.o]; rfl, HX1.o⟩
 rw [if_neg h] at HQ
 go_wp2
 go_ret
 exact ⟨by rw [HQ.o]; rfl, HX1.o⟩
end Go.Proofs.YtdkejfjcchlnpaaGreat
