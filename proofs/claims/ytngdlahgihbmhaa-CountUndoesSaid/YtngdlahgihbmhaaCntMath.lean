/-
  The plain law of layer 21: counts, as lists of keys and numbers in order.
-/
import Derived.Test.YtngdlahgihbmhaaMomMath
import Derived.Test.YtngdlahgihbmhaaMapE
namespace Go.Ox.Cnt
open Go.Ox

abbrev K := (Int × Int) × (Int × Int)
abbrev S := K × Int
def klt (a b : K) : Prop := Mom.lt a.1 b.1 ∨ (a.1 = b.1 ∧ Mom.lt a.2 b.2)
instance (a b : K) : Decidable (klt a b) := by unfold klt Mom.lt; infer_instance
def kcmp (a b : K) : Int := if Mom.cmp a.1 b.1 = 0 then Mom.cmp a.2 b.2 else Mom.cmp a.1 b.1
theorem cmp_zero {a b : Int × Int} : Mom.cmp a b = 0 ↔ a = b := by
  obtain ⟨a1, a2⟩ := a
  obtain ⟨b1, b2⟩ := b
  unfold Mom.cmp
  simp only [Prod.mk.injEq]
  repeat' split
  all_goals omega
theorem klt_irrefl (a : K) : ¬ klt a a := by
  unfold klt
  rintro (h | ⟨_, h⟩)
  · exact Mom.lt_irrefl _ h
  · exact Mom.lt_irrefl _ h
theorem klt_trans {a b c : K} (h : klt a b) (k : klt b c) : klt a c := by
  unfold klt at *
  rcases h with h | ⟨h1, h2⟩
  · rcases k with k | ⟨k1, k2⟩
    · exact .inl (Mom.lt_trans h k)
    · exact .inl (k1 ▸ h)
  · rcases k with k | ⟨k1, k2⟩
    · exact .inl (h1 ▸ k)
    · exact .inr ⟨h1.trans k1, Mom.lt_trans h2 k2⟩
theorem klt_conn (a b : K) : klt a b ∨ a = b ∨ klt b a := by
  unfold klt
  rcases Mom.lt_conn a.1 b.1 with h | h | h
  · exact .inl (.inl h)
  · rcases Mom.lt_conn a.2 b.2 with k | k | k
    · exact .inl (.inr ⟨h, k⟩)
    · exact .inr (.inl (Prod.ext h k))
    · exact .inr (.inr (.inr ⟨h.symm, k⟩))
  · exact .inr (.inr (.inl h))
theorem kcmp_lt {a b : K} : kcmp a b < 0 ↔ klt a b := by
  unfold kcmp klt
  by_cases h : a.1 = b.1
  · rw [if_pos (cmp_zero.2 h), Mom.cmp_lt]
    constructor
    · intro k; exact .inr ⟨h, k⟩
    · rintro (k | ⟨_, k⟩)
      · rw [h] at k; exact absurd k (Mom.lt_irrefl _)
      · exact k
  · rw [if_neg (fun q => h (cmp_zero.1 q)), Mom.cmp_lt]
    constructor
    · intro k; exact .inl k
    · rintro (k | ⟨q, _⟩)
      · exact k
      · exact absurd q h

/-- in order, each key once, numbers that may be -/
structure Good (L : List S) : Prop where
  asc : L.Pairwise fun a b => klt a.1 b.1
  num : ∀ x ∈ L, 1 ≤ x.2 ∧ x.2 ≤ 1073741824
theorem asc_eq : ∀ {a b : List S}, a.Pairwise (fun a b => klt a.1 b.1) → b.Pairwise (fun a b => klt a.1 b.1) → (∀ m, m ∈ a ↔ m ∈ b) → a = b
  | [], [], _, _, _ => rfl
  | [], y :: b, _, _, h => by have := (h y).2 (List.mem_cons_self ..); simp at this
  | x :: a, [], _, _, h => by have := (h x).1 (List.mem_cons_self ..); simp at this
  | x :: a, y :: b, ha, hb, h => by
    have ha := List.pairwise_cons.1 ha
    have hb := List.pairwise_cons.1 hb
    have e : x = y := by
      rcases List.mem_cons.1 ((h x).1 (List.mem_cons_self ..)) with r | r
      · exact r
      · rcases List.mem_cons.1 ((h y).2 (List.mem_cons_self ..)) with q | q
        · exact q.symm
        · exact absurd (klt_trans (ha.1 y q) (hb.1 x r)) (klt_irrefl _)
    subst e
    rw [asc_eq ha.2 hb.2 fun m => ?_]
    constructor
    · intro hm
      rcases List.mem_cons.1 ((h m).1 (List.mem_cons_of_mem _ hm)) with r | r
      · subst r; exact absurd (ha.1 _ hm) (klt_irrefl _)
      · exact r
    · intro hm
      rcases List.mem_cons.1 ((h m).2 (List.mem_cons_of_mem _ hm)) with r | r
      · subst r; exact absurd (hb.1 _ hm) (klt_irrefl _)
      · exact r
theorem asc_nodup {L : List S} (h : L.Pairwise fun a b => klt a.1 b.1) : (L.map (·.1)).Nodup := by
  rw [List.nodup_iff_pairwise_ne, List.pairwise_map]
  exact h.imp fun {a b} hh (q : a.1 = b.1) => klt_irrefl b.1 (q ▸ hh)
/-- a count -/
def was (L : List S) (k : K) : Int := (ofE k L).getD 0
theorem was_mem {L : List S} (h : Good L) {k : K} {n : Int} (hm : (k, n) ∈ L) : was L k = n := by
  obtain ⟨j, hj⟩ := fdE_mem (i := 0) (asc_nodup h.asc) hm
  unfold was ofE
  rw [hj]; rfl
theorem was_not {L : List S} {k : K} (hm : ∀ x ∈ L, x.1 ≠ k) : was L k = 0 := by
  unfold was ofE
  rw [fdE_none.2 hm]; rfl
theorem was_cases {L : List S} (h : Good L) (k : K) : (∃ n, (k, n) ∈ L ∧ was L k = n) ∨ ((∀ x ∈ L, x.1 ≠ k) ∧ was L k = 0) := by
  by_cases hm : ∃ x ∈ L, x.1 = k
  · obtain ⟨x, hx, rfl⟩ := hm
    exact .inl ⟨x.2, hx, was_mem h hx⟩
  · have : ∀ x ∈ L, x.1 ≠ k := fun x hx q => hm ⟨x, hx, q⟩
    exact .inr ⟨this, was_not this⟩
theorem was_bounds {L : List S} (h : Good L) (k : K) : 0 ≤ was L k ∧ was L k ≤ 1073741824 := by
  rcases was_cases h k with ⟨n, hm, e⟩ | ⟨_, e⟩
  · rw [e]; have := h.num _ hm; simp only at this; omega
  · rw [e]; omega
/-- counts that are the same are one list -/
theorem was_eq {L M : List S} (h : Good L) (k : Good M) (he : ∀ x, was L x = was M x) : L = M := by
  have one : ∀ {L M : List S}, Good L → Good M → (∀ x, was L x = was M x) → ∀ m, m ∈ L → m ∈ M := by
    intro L M h k he m hm
    have h1 := was_mem h (k := m.1) (n := m.2) hm
    rw [he] at h1
    have h2 := (h.num _ hm).1
    rcases was_cases k m.1 with ⟨n, hn, e⟩ | ⟨_, e⟩
    · rw [h1] at e; subst e; exact hn
    · omega
  exact asc_eq h.asc k.asc fun m => ⟨one h k he m, one k h (fun x => (he x).symm) m⟩

/-! ### as the document puts one in -/
def rstep (s : S) (st : List S × Bool) (x : S) : List S × Bool :=
  if x.1 = s.1 then st else if st.2 = false ∧ klt s.1 x.1 then (st.1 ++ [s] ++ [x], true) else (st.1 ++ [x], st.2)
def rput (L : List S) (s : S) : List S := if (L.foldl (rstep s) ([], s.2 == 0)).2 = true then (L.foldl (rstep s) ([], s.2 == 0)).1 else (L.foldl (rstep s) ([], s.2 == 0)).1 ++ [s]
structure RInv (s : S) (pre : List S) (st : List S × Bool) : Prop where
  asc : st.1.Pairwise fun a b => klt a.1 b.1
  mem : ∀ x, x ∈ st.1 ↔ (x ∈ pre ∧ x.1 ≠ s.1) ∨ (st.2 = true ∧ s.2 ≠ 0 ∧ x = s)
  off : st.2 = false → ∀ x ∈ pre, x.1 ≠ s.1 → klt x.1 s.1
  zero : s.2 = 0 → st.2 = true
  on : st.2 = true → s.2 ≠ 0 → ∃ y ∈ pre, klt s.1 y.1
theorem RInv.step {s : S} {pre : List S} {st : List S × Bool} {x : S} (h : RInv s pre st) (hx : ∀ y ∈ pre, klt y.1 x.1) : RInv s (pre ++ [x]) (rstep s st x) := by
  obtain ⟨out, put⟩ := st
  unfold rstep
  by_cases h1 : x.1 = s.1
  · rw [if_pos h1]
    refine ⟨h.asc, fun y => ?_, fun hp y hy hne => ?_, h.zero, fun hp hs => ?_⟩
    · rw [h.mem y]
      simp only [List.mem_append, List.mem_singleton]
      constructor
      · rintro (⟨a, b⟩ | c)
        · exact .inl ⟨.inl a, b⟩
        · exact .inr c
      · rintro (⟨a | rfl, b⟩ | c)
        · exact .inl ⟨a, b⟩
        · exact absurd h1 b
        · exact .inr c
    · rcases List.mem_append.1 hy with hy | hy
      · exact h.off hp y hy hne
      · rw [List.mem_singleton.1 hy] at hne; exact absurd h1 hne
    · obtain ⟨y, hy, hq⟩ := h.on hp hs
      exact ⟨y, List.mem_append_left _ hy, hq⟩
  · rw [if_neg h1]
    by_cases h2 : put = false ∧ klt s.1 x.1
    · rw [if_pos h2]
      obtain ⟨rfl, h3⟩ := h2
      have hs : s.2 ≠ 0 := fun q => by have := h.zero q; cases this
      have hout : ∀ y ∈ out, klt y.1 s.1 := fun y hy => by
        rcases (h.mem y).1 hy with ⟨a, b⟩ | ⟨a, _⟩
        · exact h.off rfl y a b
        · cases a
      refine ⟨?_, fun y => ?_, fun hp => (by cases hp), fun _ => rfl, fun _ _ => ⟨x, by simp, h3⟩⟩
      · refine List.pairwise_append.2 ⟨List.pairwise_append.2 ⟨h.asc, by simp, fun a ha b hb => ?_⟩, by simp, fun a ha b hb => ?_⟩
        · rw [List.mem_singleton.1 hb]; exact hout a ha
        · rw [List.mem_singleton.1 hb]
          rcases List.mem_append.1 ha with ha | ha
          · exact klt_trans (hout a ha) h3
          · rw [List.mem_singleton.1 ha]; exact h3
      · simp only [List.mem_append, List.mem_singleton]
        rw [h.mem y]
        constructor
        · rintro (((⟨a, b⟩ | ⟨a, _⟩) | rfl) | rfl)
          · exact .inl ⟨.inl a, b⟩
          · cases a
          · exact .inr ⟨trivial, hs, rfl⟩
          · exact .inl ⟨.inr rfl, h1⟩
        · rintro (⟨a | rfl, b⟩ | ⟨_, _, rfl⟩)
          · exact .inl (.inl (.inl ⟨a, b⟩))
          · exact .inr rfl
          · exact .inl (.inr rfl)
    · rw [if_neg h2]
      have hlt : put = false → klt x.1 s.1 := fun hp => by
        rcases klt_conn x.1 s.1 with q | q | q
        · exact q
        · exact absurd q h1
        · exact absurd ⟨hp, q⟩ h2
      refine ⟨List.pairwise_append.2 ⟨h.asc, by simp, fun a ha b hb => ?_⟩, fun y => ?_, fun hp y hy hne => ?_, h.zero, fun hp hs => ?_⟩
      · rw [List.mem_singleton.1 hb]
        rcases (h.mem a).1 ha with ⟨q, _⟩ | ⟨q, hs, rfl⟩
        · exact hx a q
        · obtain ⟨y, hy, hq⟩ := h.on q hs
          exact klt_trans hq (hx y hy)
      · simp only [List.mem_append, List.mem_singleton]
        rw [h.mem y]
        constructor
        · rintro ((⟨a, b⟩ | c) | rfl)
          · exact .inl ⟨.inl a, b⟩
          · exact .inr c
          · exact .inl ⟨.inr rfl, h1⟩
        · rintro (⟨a | rfl, b⟩ | c)
          · exact .inl (.inl ⟨a, b⟩)
          · exact .inr rfl
          · exact .inl (.inr c)
      · rcases List.mem_append.1 hy with hy | hy
        · exact h.off hp y hy hne
        · rw [List.mem_singleton.1 hy]; exact hlt hp
      · obtain ⟨y, hy, hq⟩ := h.on hp hs
        exact ⟨y, List.mem_append_left _ hy, hq⟩
theorem RInv.all {s : S} : ∀ (suf pre : List S) (st : List S × Bool), RInv s pre st → (pre ++ suf).Pairwise (fun a b => klt a.1 b.1) → RInv s (pre ++ suf) (suf.foldl (rstep s) st)
  | [], pre, st, h, _ => by simpa using h
  | x :: suf, pre, st, h, hp => by
    have h1 : ∀ y ∈ pre, klt y.1 x.1 := fun y hy => (List.pairwise_append.1 hp).2.2 y hy x (List.mem_cons_self ..)
    have := RInv.all suf (pre ++ [x]) _ (h.step h1) (by simpa using hp)
    simpa using this
theorem RInv.start (s : S) : RInv s [] ([], s.2 == 0) :=
  ⟨List.Pairwise.nil, fun x => (by simp; intro a b; exact absurd a b), fun _ x hx => by simp at hx, fun h => by simp [h], fun h1 h2 => absurd (by simpa using h1) h2⟩
theorem rput_spec {L : List S} (h : L.Pairwise fun a b => klt a.1 b.1) (s : S) : (rput L s).Pairwise (fun a b => klt a.1 b.1) ∧ ∀ x, x ∈ rput L s ↔ (x ∈ L ∧ x.1 ≠ s.1) ∨ (s.2 ≠ 0 ∧ x = s) := by
  have hi : RInv s ([] ++ L) (L.foldl (rstep s) ([], s.2 == 0)) := RInv.all L [] _ (RInv.start s) (by simpa using h)
  rw [List.nil_append] at hi
  unfold rput
  split
  · rename_i hp
    refine ⟨hi.asc, fun x => ?_⟩
    rw [hi.mem x, hp]
    simp
  · rename_i hp
    have hp : (L.foldl (rstep s) ([], s.2 == 0)).2 = false := by simpa using hp
    have hs : s.2 ≠ 0 := fun q => by have := hi.zero q; rw [hp] at this; cases this
    refine ⟨List.pairwise_append.2 ⟨hi.asc, by simp, fun a ha b hb => ?_⟩, fun x => ?_⟩
    · rw [List.mem_singleton.1 hb]
      rcases (hi.mem a).1 ha with ⟨q1, q2⟩ | ⟨q, _⟩
      · exact hi.off hp a q1 q2
      · rw [hp] at q; cases q
    · simp only [List.mem_append, List.mem_singleton]
      rw [hi.mem x, hp]
      simp [hs]
theorem rput_good {L : List S} (h : Good L) (s : S) (h0 : 0 ≤ s.2) (h1 : s.2 ≤ 1073741824) : Good (rput L s) := by
  obtain ⟨a, b⟩ := rput_spec h.asc s
  refine ⟨a, fun x hx => ?_⟩
  rcases (b x).1 hx with ⟨q, _⟩ | ⟨q, rfl⟩
  · exact h.num x q
  · omega
theorem rput_was {L : List S} (h : Good L) (s : S) (h0 : 0 ≤ s.2) (h1 : s.2 ≤ 1073741824) (k : K) : was (rput L s) k = if k = s.1 then s.2 else was L k := by
  obtain ⟨_, b⟩ := rput_spec h.asc s
  have hg := rput_good h s h0 h1
  split
  · rename_i hk
    subst hk
    by_cases hs : s.2 = 0
    · rw [hs]
      refine was_not fun x hx q => ?_
      rcases (b x).1 hx with ⟨_, q2⟩ | ⟨q2, _⟩
      · exact q2 q
      · exact q2 hs
    · exact was_mem hg ((b s).2 (.inr ⟨hs, rfl⟩))
  · rename_i hk
    rcases was_cases h k with ⟨n, hm, e⟩ | ⟨hm, e⟩
    · rw [e]
      exact was_mem hg ((b (k, n)).2 (.inl ⟨hm, hk⟩))
    · rw [e]
      refine was_not fun x hx q => ?_
      rcases (b x).1 hx with ⟨q1, _⟩ | ⟨_, rfl⟩
      · exact hm x q1 q
      · exact hk q.symm
theorem rput_len (L : List S) (s : S) : (rput L s).length ≤ L.length + 1 := by
  have key : ∀ (l : List S) (st : List S × Bool), (l.foldl (rstep s) st).1.length + (if (l.foldl (rstep s) st).2 = true then 0 else 1) ≤ st.1.length + l.length + (if st.2 = true then 0 else 1) := by
    intro l
    induction l with
    | nil => intro st; simp only [List.foldl_nil, List.length_nil, Nat.add_zero]; exact Nat.le_refl _
    | cons x l ih =>
      intro st
      have := ih (rstep s st x)
      rw [List.foldl_cons, List.length_cons]
      refine Nat.le_trans this ?_
      unfold rstep
      split
      · omega
      · split
        · rename_i hq
          rw [hq.1]
          simp; omega
        · simp; omega
  have := key L ([], s.2 == 0)
  unfold rput
  split
  · rename_i h
    rw [if_pos h] at this
    simp only [List.length_nil] at this
    split at this <;> omega
  · rename_i h
    rw [if_neg h] at this
    rw [List.length_append, List.length_singleton]
    simp only [List.length_nil] at this
    split at this <;> omega
/-- an addition -/
def add (L : List S) (k : K) (n : Int) : List S × Int :=
  if Mom.ok k.2 = false then (L, 40) else if n < - was L k ∨ 1073741824 - was L k < n then (L, 210) else (rput L (k, was L k + n), 0)
theorem add_good {L : List S} (h : Good L) (k : K) (n : Int) : Good (add L k n).1 := by
  unfold add
  split
  · exact h
  · split
    · exact h
    · exact rput_good h _ (by simp only; omega) (by simp only; omega)
theorem add_len (L : List S) (k : K) (n : Int) : (add L k n).1.length ≤ L.length + 1 := by
  unfold add
  split
  · show L.length ≤ L.length + 1; omega
  · split
    · show L.length ≤ L.length + 1; omega
    · exact rput_len _ _
theorem good_nil : Good [] := ⟨List.Pairwise.nil, by simp⟩
/-- all together -/
def tot (L : List S) : Int := (L.map (·.2)).sum
theorem tot_bounds : ∀ {L : List S}, Good L → 0 ≤ tot L ∧ tot L ≤ L.length * 1073741824
  | [], _ => by simp [tot]
  | x :: L, h => by
    have h1 := h.num x (List.mem_cons_self ..)
    have := tot_bounds (L := L) ⟨(List.pairwise_cons.1 h.asc).2, fun y hy => h.num y (List.mem_cons_of_mem _ hy)⟩
    unfold tot at *
    rw [List.map_cons, List.sum_cons, List.length_cons]
    omega
end Go.Ox.Cnt
