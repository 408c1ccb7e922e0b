/-
  PlWalk, packed: what the claim needs of them.
-/
import Derived.Test.YtdkejfjcchlnpaaGreatFn24
set_option linter.unusedVariables false
namespace Go.Ox.Pl
abbrev P2 := Int × Int
abbrev Wy := Bool × Int
def thn (x a : Wy) : Wy := if a.1 = true then a else (x.1, x.2 + a.2)
def less (x y : Wy) : Bool := decide (x.2 < y.2) || (decide (x.2 = y.2) && (x.1 && !y.1))
def le (x y : Wy) : Prop := less y x = false
theorem le_iff {x y : Wy} : le x y ↔ x.2 < y.2 ∨ (x.2 = y.2 ∧ (y.1 = true → x.1 = true)) := by
 obtain ⟨x1, x2⟩ := x;obtain ⟨y1, y2⟩ := y;unfold le less;simp only [Bool.or_eq_false_iff, decide_eq_false_iff_not, Bool.and_eq_false_iff]
 cases x1 <;> cases y1 <;> simp <;> omega
theorem a2Z {x y : Wy} : less x y = true ↔ x.2 < y.2 ∨ (x.2 = y.2 ∧ x.1 = true ∧ y.1 = false) := by
 obtain ⟨x1, x2⟩ := x;obtain ⟨y1, y2⟩ := y;unfold less
 cases x1 <;> cases y1 <;> simp
theorem le_refl (x : Wy) : le x x := le_iff.2 (.inr ⟨rfl, id⟩)
theorem le_trans {x y z : Wy} (h : le x y) (k : le y z) : le x z := by
 rw [le_iff] at *
 rcases h with h | ⟨h, h'⟩ <;> rcases k with k | ⟨k, k'⟩
 · exact .inl (by omega)
 · exact .inl (by omega)
 · exact .inl (by omega)
 exact .inr ⟨by omega, fun e => h' (k' e)⟩
theorem b4a {x y : Wy} (h : le x y) (k : le y x) : x = y := by
 rw [le_iff] at *;obtain ⟨x1, x2⟩ := x;obtain ⟨y1, y2⟩ := y;simp only at *;have : x2 = y2 := by omega
 subst this;have h1 : y1 = true → x1 = true := by rcases h with h | h; omega; exact h.2
 have h2 : x1 = true → y1 = true := by rcases k with h | h; omega; exact h.2
 cases x1 <;> cases y1 <;> simp at *
theorem b4b {x y : Wy} (h : less x y = true) : le x y := by
 rw [a2Z] at h;rw [le_iff]
 rcases h with h | ⟨h, h1, h2⟩
 · exact .inl h
 exact .inr ⟨h, fun _ => h1⟩
theorem a3P {x y : Wy} (h : le x y) (a : Wy) : le (thn x a) (thn y a) := by
 unfold thn
 split
 · exact le_refl _
 rw [le_iff] at *
 rcases h with h | ⟨h, h'⟩
 · exact .inl (by simp only; omega)
 exact .inr ⟨by simp only; omega, h'⟩
def Wk (cs : List Ar) (p : P2) : P2 → List Ar → P2 → Prop
 | u, [], v => u = v
 | u, a :: r, v => a ∈ cs ∧ a.1.1 = u ∧ a.1.2 ≠ p ∧ Wk cs p a.1.2 r v
def val (x : Wy) (ws : List Ar) : Wy := ws.foldl (fun x a => thn x a.2) x
theorem a1s (x : Wy) (r s : List Ar) : val x (r ++ s) = val (val x r) s := List.foldl_append
theorem a88 : ∀ (ws : List Ar) {x y : Wy}, le x y → le (val x ws) (val y ws)
 | [], _, _, h => h
 | a :: r, _, _, h => a88 r (a3P h a.2)
theorem a5m {cs : List Ar} {p v : P2} : ∀ {r s : List Ar} {u : P2}, Wk cs p u (r ++ s) v ↔ ∃ m, Wk cs p u r m ∧ Wk cs p m s v
 | [], s, u => by
  simp only [List.nil_append];constructor
  · intro h; exact ⟨u, rfl, h⟩
  · rintro ⟨m, rfl, h⟩; exact h
 | a :: r, s, u => by
  simp only [List.cons_append, Wk];rw [a5m (r := r) (s := s)];constructor
  · rintro ⟨h1, h2, h3, m, h4, h5⟩; exact ⟨m, ⟨h1, h2, h3, h4⟩, h5⟩
  · rintro ⟨m, ⟨h1, h2, h3, h4⟩, h5⟩; exact ⟨h1, h2, h3, m, h4, h5⟩
theorem a89 {cs : List Ar} {p c v : P2} : ∀ {ws : List Ar} {u : P2} {A B : List P2}, Wk cs p u ws v → ws.map (·.1.2) = A ++ c :: B → ∃ r s, ws = r ++ s ∧ r.map (·.1.2) = A ++ [c] ∧ s.map (·.1.2) = B ∧ Wk cs p u r c ∧ Wk cs p c s v
 | [], _, A, B, _, h => by simp at h
 | a :: ws, u, [], B, hw, h => by
  simp only [List.map_cons, List.nil_append, List.cons.injEq] at h;obtain ⟨h1, h2⟩ := h;obtain ⟨k1, k2, k3, k4⟩ := hw;exact ⟨[a], ws, rfl, by simp [h1], h2, ⟨k1, k2, k3, h1⟩, by rw [← h1]; exact k4⟩
 | a :: ws, u, x :: A, B, hw, h => by
  simp only [List.map_cons, List.cons_append, List.cons.injEq] at h;obtain ⟨h1, h2⟩ := h;obtain ⟨k1, k2, k3, k4⟩ := hw;obtain ⟨r, s, e1, e2, e3, e4, e5⟩ := a89 k4 h2;exact ⟨a :: r, s, by rw [e1]; rfl, by simp [h1, e2], e3, ⟨k1, k2, k3, e4⟩, e5⟩
theorem b0w {x y : Wy} : ∀ {ws : List Ar}, (∃ a ∈ ws, a.2.1 = true) → val x ws = val y ws
 | [], h => by simp at h
 | a :: r, h => by
  by_cases q : a.2.1 = true
  · unfold val
    rw [List.foldl_cons, List.foldl_cons, thn, thn, if_pos q, if_pos q]
  · obtain ⟨b, hb, hb2⟩ := h
    rcases List.mem_cons.1 hb with e | e
    · subst e; exact absurd hb2 q
    · exact b0w (ws := r) ⟨b, e, hb2⟩
theorem val_add {cs : List Ar} (h0 : ∀ a ∈ cs, 0 ≤ a.2.2) : ∀ {ws : List Ar} (x : Wy), (∀ a ∈ ws, a ∈ cs) → (∀ a ∈ ws, a.2.1 = false) → (val x ws).1 = x.1 ∧ x.2 ≤ (val x ws).2
 | [], x, _, _ => ⟨rfl, Int.le_refl _⟩
 | a :: r, x, h1, h2 => by
  have hf := h2 a (by simp)
  have ih := val_add h0 (ws := r) (thn x a.2) (fun b hb => h1 b (by simp [hb])) (fun b hb => h2 b (by simp [hb]))
  have ht : thn x a.2 = (x.1, x.2 + a.2.2) := by unfold thn; rw [if_neg (by rw [hf]; simp)]
  have ha := h0 a (h1 a (by simp))
  rw [ht] at ih;have e : val x (a :: r) = val (x.1, x.2 + a.2.2) r := by rw [← ht]; rfl
  rw [e];exact ⟨ih.1, by have := ih.2; simp only at this; omega⟩
theorem b4c {cs : List Ar} {p v : P2} : ∀ {ws : List Ar} {u : P2}, Wk cs p u ws v → ∀ a ∈ ws, a ∈ cs
 | [], _, _, _, h => by simp at h
 | a :: r, u, hw, b, hb => by
  rcases List.mem_cons.1 hb with e | e
  · subst e; exact hw.1
  · exact b4c hw.2.2.2 b e
theorem cnt2 : ∀ (pl vs : List P2), (∀ v ∈ vs, v ∈ pl) → (∀ c, vs.count c ≤ 2) → vs.length ≤ 2 * pl.length
 | [], vs, h, _ => by
  cases vs with
  | nil => simp
  | cons v _ => have := h v (by simp); simp at this
 | c :: pl, vs, h, h2 => by
  have ih := cnt2 pl (vs.filter (fun v => !(v == c))) (fun v hv => by
   obtain ⟨a, b⟩ := List.mem_filter.1 hv
   rcases List.mem_cons.1 (h v a) with e | e
   · subst e; simp at b
   · exact e) (fun d => Nat.le_trans (List.Sublist.count_le d List.filter_sublist) (h2 d))
  have e : vs.length = vs.count c + (vs.filter (fun v => !(v == c))).length := by
   rw [List.count_eq_length_filter]
   have : ∀ l : List P2, l.length = (l.filter (fun v => v == c)).length + (l.filter (fun v => !(v == c))).length := by
    intro l
    induction l with
    | nil => rfl
    | cons x l ih =>
     by_cases q : (x == c) = true
     · rw [List.filter_cons_of_pos (by simpa using q), List.filter_cons_of_neg (by simpa using q)]
       simp only [List.length_cons]; omega
     · rw [List.filter_cons_of_neg (by simpa using q), List.filter_cons_of_pos (by simpa using q)]
       simp only [List.length_cons]; omega
   exact this vs
  have := h2 c;rw [List.length_cons];omega
theorem three {c : P2} {vs : List P2} (h : 3 ≤ vs.count c) : ∃ A B C D, vs = A ++ c :: (B ++ c :: (C ++ c :: D)) := by
 have h1 : c ∈ vs := List.count_pos_iff.1 (by omega)
 obtain ⟨A, r1, rfl, hA⟩ := List.eq_append_cons_of_mem h1;have c1 : (A ++ c :: r1).count c = r1.count c + 1 := by rw [List.count_append, List.count_eq_zero.2 hA, List.count_cons_self]; omega
 have h2 : c ∈ r1 := List.count_pos_iff.1 (by omega)
 obtain ⟨B, r2, rfl, hB⟩ := List.eq_append_cons_of_mem h2;have c2 : (B ++ c :: r2).count c = r2.count c + 1 := by rw [List.count_append, List.count_eq_zero.2 hB, List.count_cons_self]; omega
 have h3 : c ∈ r2 := List.count_pos_iff.1 (by omega)
 obtain ⟨C, D, rfl, _⟩ := List.eq_append_cons_of_mem h3;exact ⟨A, B, C, D, rfl⟩
structure AsOk (cs : List Ar) (pl : List P2) : Prop where
 fr : ∀ a ∈ cs, a.1.1 ∈ pl
 tt : ∀ a ∈ cs, a.1.2 ∈ pl
 lo : ∀ a ∈ cs, 0 ≤ a.2.2
 hi : ∀ a ∈ cs, a.2.2 ≤ 1
 st : ∀ a ∈ cs, a.2.1 = true → a.2.2 = 0
theorem short {cs : List Ar} {pl : List P2} (H : AsOk cs pl) {p : P2} {q : P2} : ∀ (N : Nat) (ws : List Ar), ws.length ≤ N → Wk cs p p ws q → ∃ ws', Wk cs p p ws' q ∧ le (val (false, 0) ws') (val (false, 0) ws) ∧ ws'.length ≤ 2 * pl.length
 | 0, ws, hN, hw => ⟨ws, hw, le_refl _, by omega⟩
 | N + 1, ws, hN, hw => by
  by_cases hs : ws.length ≤ 2 * pl.length
  · exact ⟨ws, hw, le_refl _, hs⟩
  · have hc : ∃ c, 3 ≤ (ws.map (·.1.2)).count c := Classical.byContradiction fun hno => by
     have := cnt2 pl (ws.map (·.1.2)) (fun v hv => by
      obtain ⟨a, ha, rfl⟩ := List.mem_map.1 hv
      exact H.tt a (b4c hw a ha)) (fun c => by
      by_cases q : (ws.map (·.1.2)).count c ≤ 2
      · exact q
      · exact absurd ⟨c, by omega⟩ hno)
     rw [List.length_map] at this;omega
    obtain ⟨c, hc⟩ := hc;obtain ⟨A, B, C, D, hvs⟩ := three hc;obtain ⟨r1, s1, rfl, e2, e3, k1, k2⟩ := a89 hw hvs;obtain ⟨r2, s2, rfl, f2, f3, k3, k4⟩ := a89 k2 e3;obtain ⟨r3, s3, rfl, g2, g3, k5, k6⟩ := a89 k4 f3;have hn2 : 1 ≤ r2.length := by have := congrArg List.length f2; simp at this; omega
    have hn3 : 1 ≤ r3.length := by have := congrArg List.length g2; simp at this; omega
    simp only [List.length_append] at hN
    by_cases hset : ∃ a ∈ r3 ++ s3, a.2.1 = true
    · obtain ⟨ws', j1, j2, j3⟩ := short H (q := q) N (r1 ++ (r3 ++ s3)) (by simp only [List.length_append]; omega) (a5m.2 ⟨c, k1, k4⟩)
      refine ⟨ws', j1, ?_, j3⟩
      have e : val (false, 0) (r1 ++ (r3 ++ s3)) = val (false, 0) (r1 ++ (r2 ++ (r3 ++ s3))) := by
       rw [a1s (false, 0) r1 (r3 ++ s3), a1s (false, 0) r1 (r2 ++ (r3 ++ s3)), a1s _ r2 (r3 ++ s3)];exact b0w hset
      rw [← e]; exact j2
    · obtain ⟨ws', j1, j2, j3⟩ := short H (q := q) N (r1 ++ (r2 ++ s3)) (by simp only [List.length_append]; omega) (a5m.2 ⟨c, k1, a5m.2 ⟨c, k3, k6⟩⟩)
      refine ⟨ws', j1, le_trans j2 ?_, j3⟩;rw [a1s, a1s, a1s, a1s, a1s];refine a88 s3 ?_
      have := val_add H.lo (ws := r3) (val (val (false, 0) r1) r2) (b4c k5) (fun a ha => by
       cases q : a.2.1 with
       | false => rfl
       | true => exact absurd ⟨a, by simp [ha], q⟩ hset)
      rw [le_iff]
      by_cases q : (val (val (false, 0) r1) r2).2 < (val (val (val (false, 0) r1) r2) r3).2
      · exact .inl q
      · exact .inr ⟨by omega, fun e => by rw [← this.1]; exact e⟩
abbrev Mp := P2 → Option Wy
structure Least (cs : List Ar) (p : P2) (M : Mp) : Prop where
 self : M p = some (false, 0)
 walk : ∀ q w, M q = some w → ∃ ws, Wk cs p p ws q ∧ val (false, 0) ws = w
 closed : ∀ a ∈ cs, ∀ x, M a.1.1 = some x → a.1.2 ≠ p → ∃ y, M a.1.2 = some y ∧ le y (thn x a.2)
theorem Least.le {cs : List Ar} {p : P2} {M : Mp} (h : Least cs p M) {q : P2} : ∀ {ws : List Ar} {u : P2} {x y : Wy}, Wk cs p u ws q → M u = some y → Pl.le y x → ∃ z, M q = some z ∧ Pl.le z (val x ws)
 | [], u, x, y, hw, hu, hy => by
  have : u = q := hw;subst this;exact ⟨y, hu, hy⟩
 | a :: r, u, x, y, hw, hu, hy => by
  obtain ⟨h1, h2, h3, h4⟩ := hw;obtain ⟨z, hz, hzl⟩ := h.closed a h1 y (by rw [h2]; exact hu) h3
  have := h.le (x := thn x a.2) h4 hz (Pl.le_trans hzl (a3P hy a.2));exact this
theorem Least.b0x {cs : List Ar} {p : P2} {M : Mp} (h : Least cs p M) {q : P2} {ws : List Ar} (hw : Wk cs p p ws q) : ∃ z, M q = some z ∧ Pl.le z (val (false, 0) ws) := h.le hw h.self (le_refl _)
theorem Least.uniq {cs : List Ar} {p : P2} {M M' : Mp} (h : Least cs p M) (h' : Least cs p M') : M = M' := by
 have key : ∀ {M M' : Mp}, Least cs p M → Least cs p M' → ∀ q w, M q = some w → M' q = some w := by
  intro M M' h h' q w hq;obtain ⟨ws, hw, hv⟩ := h.walk q w hq;obtain ⟨z, hz, hzl⟩ := h'.b0x hw;obtain ⟨ws', hw', hv'⟩ := h'.walk q z hz;obtain ⟨y, hy, hyl⟩ := h.b0x hw';rw [hq] at hy;injection hy with hy
  subst hy;rw [hv] at hzl;rw [hv'] at hyl;rw [hz, b4a hzl hyl]
 funext q
 cases hq : M q with
 | some w => exact (key h h' q w hq).symm
 | none =>
 cases hq' : M' q with
 | none => rfl
 | some w => rw [key h' h q w hq'] at hq; cases hq
def upd (M : Mp) (k : P2) (w : Wy) : Mp := fun q => if q = k then some w else M q
def b31 (pl : List P2) (M : Mp) : Nat := (pl.map fun q => if (M q).isSome = true then 1 else 0).sum
def rkO : Option Wy → Nat
 | none => 100
 | some w => 2 * w.2.toNat + (if w.1 = true then 0 else 1)
def mu (pl : List P2) (M : Mp) : Nat := (pl.map fun q => rkO (M q)).sum
theorem b0y {f g : P2 → Nat} : ∀ (l : List P2), (∀ q ∈ l, f q ≤ g q) → (l.map f).sum ≤ (l.map g).sum
 | [], _ => Nat.le_refl _
 | x :: l, h => by
  have h1 := b0y l fun q hq => h q (by simp [hq])
  have h2 := h x (by simp)
  simp only [List.map_cons, List.sum_cons]; omega
theorem b0z {f g : P2 → Nat} {v : P2} : ∀ (l : List P2), (∀ q ∈ l, f q ≤ g q) → v ∈ l → f v < g v → (l.map f).sum < (l.map g).sum
 | [], _, hv, _ => by simp at hv
 | x :: l, h, hv, hlt => by
  have h1 := b0y l fun q hq => h q (by simp [hq])
  have h2 := h x (by simp)
  simp only [List.map_cons, List.sum_cons]
  rcases List.mem_cons.1 hv with e | e
  · subst e; omega
  · have := b0z l (fun q hq => h q (by simp [hq])) e hlt; omega
theorem b0A (pl : List P2) (M : Mp) : b31 pl M ≤ pl.length := by
 unfold b31
 induction pl with
 | nil => simp
 | cons x l ih => simp only [List.map_cons, List.sum_cons, List.length_cons]; split <;> omega
theorem b0B (M : Mp) (k : P2) (w : Wy) : upd M k w k = some w := if_pos rfl
theorem b32 (M : Mp) {k q : P2} (w : Wy) (h : q ≠ k) : upd M k w q = M q := if_neg h
theorem b33 (M : Mp) (k : P2) (w : Wy) (pl : List P2) : b31 pl M ≤ b31 pl (upd M k w) := by
 refine b0y pl fun q _ => ?_
 by_cases e : q = k
 · subst e; rw [b0B]; simp; split <;> omega
 rw [b32 M w e]; exact Nat.le_refl _
theorem b4d {M : Mp} {k : P2} (w : Wy) (hn : M k = none) (pl : List P2) (h : k ∈ pl) : b31 pl M + 1 ≤ b31 pl (upd M k w) := by
 refine b0z pl (v := k) (fun q _ => ?_) h ?_
 · by_cases e : q = k
   · subst e; rw [b0B]; simp; split <;> omega
   rw [b32 M w e]; exact Nat.le_refl _
 rw [b0B, hn]; simp
structure Inv (cs : List Ar) (pl : List P2) (p : P2) (M : Mp) : Prop where
 self : M p = some (false, 0)
 walk : ∀ q w, M q = some w → ∃ ws, Wk cs p p ws q ∧ val (false, 0) ws = w
 bnd : ∀ q w, M q = some w → q ∈ pl ∧ 0 ≤ w.2 ∧ w.2 ≤ (b31 pl M : Int)
def M0 (p : P2) : Mp := fun q => if q = p then some (false, 0) else none
theorem b4I {cs : List Ar} {pl : List P2} {p : P2} (hp : p ∈ pl) : Inv cs pl p (M0 p) where
 self := if_pos rfl
 walk q w h := by
  unfold M0 at h
  by_cases e : q = p
  · rw [if_pos e] at h; injection h with h; exact ⟨[], e.symm, h⟩
  · rw [if_neg e] at h; cases h
 bnd q w h := by
  unfold M0 at h
  by_cases e : q = p
  · rw [if_pos e] at h; injection h with h; subst h; exact ⟨by rw [e]; exact hp, by simp, by simp⟩
  rw [if_neg e] at h; cases h
def better (M : Mp) (p v : P2) (w : Wy) : Prop := v ≠ p ∧ ((M v).isNone = true ∨ less w ((M v).getD (false, 0)) = true)
instance (M : Mp) (p v : P2) (w : Wy) : Decidable (better M p v w) := by unfold better; infer_instance
theorem Inv.step {cs : List Ar} {pl : List P2} (H : AsOk cs pl) (hn : pl.length ≤ 20) {p : P2} {M : Mp} (h : Inv cs pl p M) {a : Ar} (ha : a ∈ cs) {x : Wy} (hx : M a.1.1 = some x) (hb : better M p a.1.2 (thn x a.2)) :
 Inv cs pl p (upd M a.1.2 (thn x a.2)) ∧ mu pl (upd M a.1.2 (thn x a.2)) < mu pl M ∧ 0 ≤ (thn x a.2).2 ∧ (thn x a.2).2 ≤ 20 := by
 obtain ⟨ws, hw, hv⟩ := h.walk _ _ hx;obtain ⟨b1, b2, b3⟩ := h.bnd _ _ hx;have ht := H.tt a ha;have a0 := H.lo a ha;have a1 := H.hi a ha
 have n0 : 0 ≤ (thn x a.2).2 := by
  unfold thn
  split
  · exact a0
  simp only; omega
 have n1 : (thn x a.2).2 ≤ x.2 + 1 := by
  unfold thn
  split
  · omega
  simp only; omega
 have hc : (thn x a.2).2 ≤ (b31 pl (upd M a.1.2 (thn x a.2)) : Int) := by
  cases hm : M a.1.2 with
  | none =>
   have := b4d (thn x a.2) hm pl ht;omega
  | some y =>
  have hl : less (thn x a.2) y = true := by
   rcases hb.2 with q | q
   · rw [hm] at q; cases q
   rw [hm] at q; exact q
  have := h.bnd _ _ hm;have h2 := b33 M a.1.2 (thn x a.2) pl;rw [a2Z] at hl;omega
 have hle := b0A pl (upd M a.1.2 (thn x a.2));have h20 : (thn x a.2).2 ≤ 20 := by omega
 refine ⟨⟨?_, ?_, ?_⟩, ?_, n0, h20⟩
 · unfold upd; rw [if_neg hb.1.symm]; exact h.self
 · intro q w hq
   unfold upd at hq
   by_cases e : q = a.1.2
   · rw [if_pos e] at hq
     injection hq with hq
     refine ⟨ws ++ [a], a5m.2 ⟨_, hw, ha, rfl, hb.1, e.symm⟩, ?_⟩;rw [a1s, hv, ← hq]; rfl
   rw [if_neg e] at hq;exact h.walk q w hq
 · intro q w hq
   have hup := b33 M a.1.2 (thn x a.2) pl;unfold upd at hq
   by_cases e : q = a.1.2
   · rw [if_pos e] at hq
     injection hq with hq
     subst hq;exact ⟨by rw [e]; exact ht, n0, hc⟩
   rw [if_neg e] at hq;have := h.bnd q w hq;exact ⟨this.1, this.2.1, by omega⟩
 refine b0z pl (v := a.1.2) (fun q _ => ?_) ht ?_
 all_goals unfold upd
 · by_cases e : q = a.1.2
   · rw [if_pos e, e]
     cases hm : M a.1.2 with
     | none => simp only [rkO]; split <;> omega
     | some y =>
     have hl : less (thn x a.2) y = true := by
      rcases hb.2 with q | q
      · rw [hm] at q; cases q
      rw [hm] at q; exact q
     have := h.bnd _ _ hm;rw [a2Z] at hl;simp only [rkO]
     rcases hl with hl | ⟨hl, hl1, hl2⟩
     · split <;> split <;> omega
     rw [hl1, hl2]; simp; omega
   rw [if_neg e]; exact Nat.le_refl _
 rw [if_pos rfl]
 cases hm : M a.1.2 with
 | none => simp only [rkO]; split <;> omega
 | some y =>
 have hl : less (thn x a.2) y = true := by
  rcases hb.2 with q | q
  · rw [hm] at q; cases q
  rw [hm] at q; exact q
 have := h.bnd _ _ hm;rw [a2Z] at hl;simp only [rkO]
 rcases hl with hl | ⟨hl, hl1, hl2⟩
 · split <;> split <;> omega
 rw [hl1, hl2]; simp; omega
theorem mu_le (pl : List P2) (M : Mp) {p : P2} {cs : List Ar} (h : Inv cs pl p M) (hn : pl.length ≤ 20) : mu pl M ≤ 2000 := by
 have h1 : ∀ q, rkO (M q) ≤ 100 := fun q => by
  cases hm : M q with
  | none => exact Nat.le_refl _
  | some y =>
  have := h.bnd _ _ hm;have := b0A pl M;simp only [rkO]; split <;> omega
 have h2 : ∀ l : List P2, (l.map fun q => rkO (M q)).sum ≤ l.length * 100 := by
  intro l
  induction l with
  | nil => simp
  | cons x l ih =>
  have := h1 x;simp only [List.map_cons, List.sum_cons, List.length_cons]; omega
 have := h2 pl;unfold mu;omega
theorem Inv.least {cs : List Ar} {pl : List P2} {p : P2} {M : Mp} (h : Inv cs pl p M) (hb : ∀ a ∈ cs, ∀ x, M a.1.1 = some x → ¬ better M p a.1.2 (thn x a.2)) : Least cs p M where
 self := h.self
 walk := h.walk
 closed a ha x hx hne := by
  have := hb a ha x hx;unfold better at this
  cases hm : M a.1.2 with
  | none => exact absurd ⟨hne, .inl (by rw [hm]; rfl)⟩ this
  | some y =>
   refine ⟨y, rfl, ?_⟩
   show less _ _ = false
   cases q : less (thn x a.2) y with
   | false => rfl
   | true => exact absurd ⟨hne, .inr (by rw [hm]; exact q)⟩ this
def rx (p : P2) (M : Mp) (a : Ar) : Mp :=
 match M a.1.1 with
 | none => M
 | some x => if better M p a.1.2 (thn x a.2) then upd M a.1.2 (thn x a.2) else M
def pass (cs : List Ar) (p : P2) (M : Mp) : Mp := cs.foldl (rx p) M
def iter (cs : List Ar) (p : P2) : Nat → Mp → Mp
 | 0, M => M
 | k + 1, M => pass cs p (iter cs p k M)
def dn (M M' : Mp) : Prop := ∀ q y, M q = some y → ∃ y', M' q = some y' ∧ le y' y
theorem b0C (M : Mp) : dn M M := fun q y h => ⟨y, h, le_refl y⟩
theorem a8a {A B C : Mp} (h : dn A B) (k : dn B C) : dn A C := fun q y hq => by
 obtain ⟨y1, h1, h2⟩ := h q y hq;obtain ⟨y2, h3, h4⟩ := k q y1 h1;exact ⟨y2, h3, le_trans h4 h2⟩
theorem rx_dn (p : P2) (M : Mp) (a : Ar) : dn M (rx p M a) := fun q y hq => by
 unfold rx
 cases hm : M a.1.1 with
 | none => exact ⟨y, hq, le_refl y⟩
 | some x =>
  simp only
  split
  · rename_i hb
    unfold upd
    by_cases e : q = a.1.2
    · rw [if_pos e]
      refine ⟨_, rfl, ?_⟩;rw [e] at hq
      rcases hb.2 with k | k
      · rw [hq] at k; cases k
      · rw [hq] at k; exact b4b k
    · rw [if_neg e]; exact ⟨y, hq, le_refl y⟩
  · exact ⟨y, hq, le_refl y⟩
theorem rx_at {p : P2} {M : Mp} {a : Ar} {x : Wy} (hx : M a.1.1 = some x) (hne : a.1.2 ≠ p) : ∃ y, rx p M a a.1.2 = some y ∧ le y (thn x a.2) := by
 unfold rx;rw [hx];simp only
 split
 · unfold upd; rw [if_pos rfl]; exact ⟨_, rfl, le_refl _⟩
 rename_i hb
 cases hm : M a.1.2 with
 | none => exact absurd ⟨hne, .inl (by rw [hm]; rfl)⟩ hb
 | some y =>
 refine ⟨y, rfl, ?_⟩
 show less _ _ = false
 cases q : less (thn x a.2) y with
 | false => rfl
 | true => exact absurd ⟨hne, .inr (by rw [hm]; exact q)⟩ hb
theorem rx_inv {cs : List Ar} {pl : List P2} (H : AsOk cs pl) (hn : pl.length ≤ 20) {p : P2} {M : Mp} (h : Inv cs pl p M) {a : Ar} (ha : a ∈ cs) : Inv cs pl p (rx p M a) := by
 unfold rx
 cases hm : M a.1.1 with
 | none => exact h
 | some x =>
 simp only
 split
 · rename_i hb; exact (h.step H hn ha hm hb).1
 exact h
theorem a5W (p : P2) : ∀ (l : List Ar) (M : Mp), dn M (l.foldl (rx p) M)
 | [], M => b0C M
 | a :: l, M => a8a (rx_dn p M a) (a5W p l _)
theorem a8b {cs : List Ar} {pl : List P2} (H : AsOk cs pl) (hn : pl.length ≤ 20) {p : P2} : ∀ (l : List Ar) (M : Mp), (∀ a ∈ l, a ∈ cs) → Inv cs pl p M → Inv cs pl p (l.foldl (rx p) M)
 | [], M, _, h => h
 | a :: l, M, hl, h => a8b H hn l _ (fun b hb => hl b (by simp [hb])) (rx_inv H hn h (hl a (by simp)))
theorem b4e {cs : List Ar} {p : P2} {M : Mp} {a : Ar} (ha : a ∈ cs) {x : Wy} (hx : M a.1.1 = some x) (hne : a.1.2 ≠ p) : ∃ y, pass cs p M a.1.2 = some y ∧ le y (thn x a.2) := by
 obtain ⟨l1, l2, rfl⟩ := List.append_of_mem ha;unfold pass;rw [List.foldl_append, List.foldl_cons];obtain ⟨x1, h1, h2⟩ := a5W p l1 M _ _ hx;obtain ⟨y, h3, h4⟩ := rx_at h1 hne;obtain ⟨y', h5, h6⟩ := a5W p l2 _ _ _ h3;exact ⟨y', h5, le_trans h6 (le_trans h4 (a3P h2 _))⟩
theorem b34 (cs : List Ar) (p : P2) : ∀ (k : Nat) (M : Mp), iter cs p (k + 1) M = iter cs p k (pass cs p M)
 | 0, M => rfl
 | k + 1, M => by
  show pass cs p (iter cs p (k + 1) M) = pass cs p (iter cs p k (pass cs p M));rw [b34 cs p k M]
theorem b0D (cs : List Ar) (p : P2) : ∀ (k : Nat) (M : Mp), dn M (iter cs p k M)
 | 0, M => b0C M
 | k + 1, M => a8a (b0D cs p k M) (a5W p cs _)
theorem a8c {cs : List Ar} {pl : List P2} (H : AsOk cs pl) (hn : pl.length ≤ 20) {p : P2} : ∀ (k : Nat) (M : Mp), Inv cs pl p M → Inv cs pl p (iter cs p k M)
 | 0, M, h => h
 | k + 1, M, h => a8b H hn cs _ (fun a ha => ha) (a8c H hn k M h)
theorem a6H {cs : List Ar} {p q : P2} : ∀ (k : Nat) {ws : List Ar} {M : Mp} {u : P2} {x y : Wy}, ws.length ≤ k → Wk cs p u ws q → M u = some y → le y x → ∃ z, iter cs p k M q = some z ∧ le z (val x ws)
 | k, [], M, u, x, y, hl, hw, hu, hy => by
  have : u = q := hw;subst this;obtain ⟨z, h1, h2⟩ := b0D cs p k M _ _ hu;exact ⟨z, h1, le_trans h2 hy⟩
 | 0, a :: r, M, u, x, y, hl, hw, hu, hy => by simp at hl
 | k + 1, a :: r, M, u, x, y, hl, hw, hu, hy => by
  obtain ⟨h1, h2, h3, h4⟩ := hw;rw [b34];obtain ⟨z, hz, hzl⟩ := b4e (M := M) h1 (x := y) (by rw [h2]; exact hu) h3
  have := a6H k (ws := r) (M := pass cs p M) (x := thn x a.2) (by simpa using hl) h4 hz (le_trans hzl (a3P hy a.2))
  exact this
theorem a8V {cs : List Ar} {pl : List P2} (H : AsOk cs pl) (hn : pl.length ≤ 20) {p : P2} (hp : p ∈ pl) : Least cs p (iter cs p (2 * pl.length + 1) (M0 p)) := by
 have hi := a8c H hn (2 * pl.length + 1) (M0 p) (b4I (cs := cs) hp);refine ⟨hi.self, hi.walk, fun a ha x hx hne => ?_⟩
 obtain ⟨ws, hw, hv⟩ := hi.walk _ _ hx;obtain ⟨ws', j1, j2, j3⟩ := short H _ (ws ++ [a]) (Nat.le_refl _) (a5m.2 ⟨_, hw, ha, rfl, hne, rfl⟩);obtain ⟨z, hz, hzl⟩ := a6H (M := M0 p) (2 * pl.length + 1) (x := (false, 0)) (y := (false, 0)) (by omega) j1 (if_pos rfl) (le_refl _)
 refine ⟨z, hz, le_trans hzl (le_trans j2 ?_)⟩;rw [a1s, hv];exact le_refl _
end Go.Ox.Pl
