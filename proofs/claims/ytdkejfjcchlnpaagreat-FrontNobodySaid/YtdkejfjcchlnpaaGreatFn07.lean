/-
  MomMath, packed: what the claim needs of them.
-/
import Derived.Test.YtdkejfjcchlnpaaGreatFn02
namespace Go.Ox.Mom
abbrev M := Int × Int
def ok (m : M) : Bool := decide (0 ≤ m.1) && decide (m.1 < 65536) && (decide (0 ≤ m.2) && decide (m.2 < 65536))
def ahead (a b : M) : Bool := decide (a.1 ≤ b.1) && decide (a.2 ≤ b.2)
def cmp (a b : M) : Int := if a.1 < b.1 then -1 else if b.1 < a.1 then 1 else if a.2 < b.2 then -1 else if b.2 < a.2 then 1 else 0
def a1G (f : List M) (m : M) : Bool := f.any fun x => ahead x m
def lt (a b : M) : Prop := a.1 < b.1 ∨ (a.1 = b.1 ∧ a.2 < b.2)
theorem lt_irrefl (a : M) : ¬ lt a a := by unfold lt; omega
theorem lt_trans {a b c : M} (h : lt a b) (k : lt b c) : lt a c := by unfold lt at *; omega
theorem a2x (a b : M) : lt a b ∨ a = b ∨ lt b a := by
 obtain ⟨a1, a2⟩ := a;obtain ⟨b1, b2⟩ := b;unfold lt;simp only [Prod.mk.injEq];omega
theorem a6d {a b : M} : cmp a b < 0 ↔ lt a b := by
 unfold cmp lt
 split
 · simp_all
 split
 · simp; omega
 split
 · simp; omega
 split <;> simp <;> omega
theorem a4P (a : M) : ahead a a = true := by unfold ahead; simp
theorem a6R {a b c : M} (h : ahead a b = true) (k : ahead b c = true) : ahead a c = true := by
 unfold ahead at *;simp only [Bool.and_eq_true, decide_eq_true_eq] at *;omega
theorem a5A {a b : M} (h : ahead a b = true) (hne : a ≠ b) : lt a b := by
 obtain ⟨a1, a2⟩ := a;obtain ⟨b1, b2⟩ := b;unfold ahead at h;unfold lt;simp only [Bool.and_eq_true, decide_eq_true_eq, ne_eq, Prod.mk.injEq] at *;omega
theorem a1n {f : List M} {m : M} : a1G f m = true ↔ ∃ x ∈ f, ahead x m = true := by unfold a1G; simp
def step (out : List M) (m : M) : List M := if a1G out m = true then out else out ++ [m]
def front (s : List M) : List M := s.foldl step []
structure Good (pre out : List M) : Prop where
 cov : ∀ k ∈ pre, a1G out k = true
 sub : ∀ k ∈ out, k ∈ pre
 asc : out.Pairwise lt
 anti : out.Pairwise fun a b => ahead a b = false
theorem Good.step {pre out : List M} {m : M} (h : Good pre out) (hm : ∀ k ∈ pre, ¬ lt m k) : Good (pre ++ [m]) (step out m) := by
 unfold Mom.step
 split
 · rename_i hc
   refine ⟨fun k hk => ?_, fun k hk => List.mem_append_left _ (h.sub k hk), h.asc, h.anti⟩
   rcases List.mem_append.1 hk with hk | hk
   · exact h.cov k hk
   rw [List.mem_singleton.1 hk]; exact hc
 rename_i hc
 have hno : ∀ x ∈ out, ahead x m = false := fun x hx => by
  cases hq : ahead x m with
  | false => rfl
  | true => exact absurd (a1n.2 ⟨x, hx, hq⟩) hc
 refine ⟨fun k hk => ?_, fun k hk => ?_, ?_, ?_⟩
 · rcases List.mem_append.1 hk with hk | hk
   · obtain ⟨x, hx, hq⟩ := a1n.1 (h.cov k hk)
     exact a1n.2 ⟨x, List.mem_append_left _ hx, hq⟩
   rw [List.mem_singleton.1 hk];exact a1n.2 ⟨m, by simp, a4P m⟩
 · rcases List.mem_append.1 hk with hk | hk
   · exact List.mem_append_left _ (h.sub k hk)
   exact List.mem_append_right _ hk
 · refine List.pairwise_append.2 ⟨h.asc, by simp, fun a ha b hb => ?_⟩
   rw [List.mem_singleton.1 hb]
   rcases a2x a m with h1 | h1 | h1
   · exact h1
   · exfalso
     have := hno a ha;rw [h1, a4P] at this
     cases this
   exact absurd h1 (hm a (h.sub a ha))
 refine List.pairwise_append.2 ⟨h.anti, by simp, fun a ha b hb => ?_⟩
 rw [List.mem_singleton.1 hb];exact hno a ha
theorem a4Q : ∀ (s pre out : List M), Good pre out → (pre ++ s).Pairwise (fun a b => ¬ lt b a) → Good (pre ++ s) (s.foldl step out)
 | [], pre, out, h, _ => by simpa using h
 | m :: s, pre, out, h, hs => by
  have h1 : ∀ k ∈ pre, ¬ lt m k := fun k hk => (List.pairwise_append.1 hs).2.2 k hk m (List.mem_cons_self ..)
  have := a4Q s (pre ++ [m]) _ (h.step h1) (by simpa using hs)
  simpa using this
theorem a2m {s : List M} (hs : s.Pairwise fun a b => ¬ lt b a) : Good s (front s) := by
 have := a4Q s [] [] ⟨by simp, by simp, List.Pairwise.nil, List.Pairwise.nil⟩ (by simpa using hs)
 rw [List.nil_append] at this;exact this
def least (l : List M) (m : M) : Bool := l.all fun k => decide (k = m) || !ahead k m
theorem a2I {l : List M} {m : M} : least l m = true ↔ ∀ k ∈ l, k ≠ m → ahead k m = false := by
 unfold least;simp only [List.all_eq_true, Bool.or_eq_true, decide_eq_true_eq, Bool.not_eq_true'];constructor
 · intro h k hk hne
   rcases h k hk with h | h
   · exact absurd h hne
   exact h
 intro h k hk
 by_cases hq : k = m
 · exact .inl hq
 exact .inr (h k hk hq)
theorem a6S {l s : List M} (h : ∀ k, k ∈ l ↔ k ∈ s) (m : M) : least l m = least s m := by
 rw [Bool.eq_iff_iff, a2I, a2I];constructor
 · intro hq k hk; exact hq k ((h k).2 hk)
 intro hq k hk; exact hq k ((h k).1 hk)
theorem a9q {s : List M} (hs : s.Pairwise fun a b => ¬ lt b a) (m : M) : m ∈ front s ↔ m ∈ s ∧ least s m = true := by
 have g := a2m hs;constructor
 · intro hm
   refine ⟨g.sub m hm, a2I.2 fun k hk hne => ?_⟩
   cases hq : ahead k m with
   | false => rfl
   | true =>
   exfalso;obtain ⟨x, hx, hxk⟩ := a1n.1 (g.cov k hk);have hxm := a6R hxk hq
   have hlt : lt x m := by
    by_cases he : x = m
    · exfalso
      subst he;exact lt_irrefl x (lt_trans (a5A hxk (Ne.symm hne)) (a5A hq hne))
    exact a5A hxm he
   -- x stands ahead of m in what ascends
   have key : ∀ (l : List M), l.Pairwise lt → l.Pairwise (fun a b => ahead a b = false) → x ∈ l → m ∈ l → lt x m → ahead x m = true → False := by
    intro l
    induction l with
    | nil => intro _ _ h; simp at h
    | cons a l ih =>
    intro h1 h2 ix im hl ha;have h1 := List.pairwise_cons.1 h1;have h2 := List.pairwise_cons.1 h2
    rcases List.mem_cons.1 ix with rfl | ix2
    · rcases List.mem_cons.1 im with rfl | im2
      · exact lt_irrefl _ hl
      have := h2.1 m im2; rw [ha] at this; cases this
    rcases List.mem_cons.1 im with rfl | im2
    · exact lt_irrefl _ (lt_trans hl (h1.1 x ix2))
    exact ih h1.2 h2.2 ix2 im2 hl ha
   exact key _ g.asc g.anti hx hm hlt hxm
 rintro ⟨hm, hl⟩;obtain ⟨x, hx, hq⟩ := a1n.1 (g.cov m hm)
 by_cases he : x = m
 · rw [← he]; exact hx
 have := a2I.1 hl x (g.sub x hx) he;rw [hq] at this; cases this
theorem a4R : ∀ {a b : List M}, a.Pairwise lt → b.Pairwise lt → (∀ m, m ∈ a ↔ m ∈ b) → a = b
 | [], [], _, _, _ => rfl
 | [], y :: b, _, _, h => by have := (h y).2 (List.mem_cons_self ..); simp at this
 | x :: a, [], _, _, h => by have := (h x).1 (List.mem_cons_self ..); simp at this
 | x :: a, y :: b, ha, hb, h => by
  have ha := List.pairwise_cons.1 ha;have hb := List.pairwise_cons.1 hb
  have e : x = y := by
   rcases a2x x y with q | q | q
   · exfalso
     rcases List.mem_cons.1 ((h x).1 (List.mem_cons_self ..)) with r | r
     · rw [r] at q; exact lt_irrefl _ q
     · exact lt_irrefl _ (lt_trans q (hb.1 x r))
   · exact q
   · exfalso
     rcases List.mem_cons.1 ((h y).2 (List.mem_cons_self ..)) with r | r
     · rw [r] at q; exact lt_irrefl _ q
     · exact lt_irrefl _ (lt_trans q (ha.1 y r))
  subst e;rw [a4R ha.2 hb.2 fun m => ?_]
  constructor
  · intro hm
    rcases List.mem_cons.1 ((h m).1 (List.mem_cons_of_mem _ hm)) with r | r
    · subst r; exact absurd (ha.1 _ hm) (lt_irrefl _)
    · exact r
  · intro hm
    rcases List.mem_cons.1 ((h m).2 (List.mem_cons_of_mem _ hm)) with r | r
    · subst r; exact absurd (hb.1 _ hm) (lt_irrefl _)
    · exact r
def place (out : List M) (m : M) : Nat := (out.takeWhile fun x => decide (cmp x m < 0)).length
def ins (out : List M) (m : M) : List M :=
 if out[place out m]? = some m then out else out.take (place out m) ++ m :: out.drop (place out m)
def a2y (l : List M) (out : List M) (m : M) : List M := if least l m = true then ins out m else out
def a2s (l : List M) : List M := l.foldl (a2y l) []
theorem a4S : ∀ (out : List M) (m : M), ∀ x ∈ out.take (place out m), lt x m
 | [], m, x, h => by simp at h
 | a :: out, m, x, h => by
  unfold place at h;rw [List.takeWhile_cons] at h
  split at h
  · rename_i ha
    simp only [List.length_cons, List.take_succ_cons] at h
    rcases List.mem_cons.1 h with rfl | h
    · exact a6d.1 (by simpa using ha)
    · exact a4S out m x h
  · simp at h
theorem a4T : ∀ (out : List M) (m : M), out.Pairwise lt → ∀ x ∈ out.drop (place out m), ¬ lt x m
 | [], m, _, x, h => by simp at h
 | a :: out, m, hp, x, h => by
  have hp' := List.pairwise_cons.1 hp;unfold place at h;rw [List.takeWhile_cons] at h
  split at h
  · simp only [List.length_cons, List.drop_succ_cons] at h
    exact a4T out m hp'.2 x h
  · rename_i ha
    simp only [List.length_nil, List.drop_zero] at h;have ha : ¬ lt a m := fun hq => ha (by simpa using a6d.2 hq)
    rcases List.mem_cons.1 h with rfl | h
    · exact ha
    · intro hq; exact ha (lt_trans (hp'.1 x h) hq)
theorem b1t {out : List M} (m : M) (h : out.Pairwise lt) : (ins out m).Pairwise lt ∧ ∀ x, x ∈ ins out m ↔ x ∈ out ∨ x = m := by
 have h1 := a4S out m;have h2 := a4T out m h;unfold ins
 split
 · rename_i he
   exact ⟨h, fun x => ⟨.inl, fun hx => Or.elim hx id fun q => by rw [q]; exact List.mem_of_getElem? he⟩⟩
 rename_i he
 have hsplit := List.take_append_drop (place out m) out;generalize place out m = k at *
 have hnm : m ∉ out.drop k := by
  intro hm
  cases hd : out.drop k with
  | nil => rw [hd] at hm; simp at hm
  | cons y ys =>
  rw [hd] at hm h2
  have hy : out[k]? = some y := by
   have : (out.drop k)[0]? = some y := by rw [hd]; rfl
   rwa [List.getElem?_drop, Nat.add_zero] at this
  have hp : (y :: ys).Pairwise lt := by rw [← hd]; exact h.sublist (List.drop_sublist _ _)
  rcases List.mem_cons.1 hm with rfl | hm
  · exact he hy
  exact h2 y (List.mem_cons_self ..) ((List.pairwise_cons.1 hp).1 m hm)
 refine ⟨?_, fun x => ?_⟩
 · rw [← hsplit] at h
   obtain ⟨p1, p2, p3⟩ := List.pairwise_append.1 h;refine List.pairwise_append.2 ⟨p1, List.pairwise_cons.2 ⟨fun y hy => ?_, p2⟩, fun a ha b hb => ?_⟩
   · rcases a2x m y with q | q | q
     · exact q
     · rw [q] at hnm; exact absurd hy hnm
     exact absurd q (h2 y hy)
   rcases List.mem_cons.1 hb with rfl | hb
   · exact h1 a ha
   exact p3 a ha b hb
 conv => rhs; rw [← hsplit]
 simp only [List.mem_append, List.mem_cons];constructor
 · rintro (h | h | h)
   · exact .inl (.inl h)
   · exact .inr h
   exact .inl (.inr h)
 rintro ((h | h) | h)
 · exact .inl h
 · exact .inr (.inr h)
 exact .inr (.inl h)
theorem a3Z (l : List M) : ∀ (s pre : List M) (out : List M), out.Pairwise lt → (∀ x, x ∈ out ↔ x ∈ pre ∧ least l x = true) →
 (s.foldl (a2y l) out).Pairwise lt ∧ ∀ x, x ∈ s.foldl (a2y l) out ↔ x ∈ pre ++ s ∧ least l x = true
 | [], pre, out, h1, h2 => ⟨h1, by simpa using h2⟩
 | m :: s, pre, out, h1, h2 => by
  have : (a2y l out m).Pairwise lt ∧ ∀ x, x ∈ a2y l out m ↔ x ∈ pre ++ [m] ∧ least l x = true := by
   unfold a2y
   split
   · rename_i hl
     obtain ⟨q1, q2⟩ := b1t m h1;refine ⟨q1, fun x => ?_⟩
     rw [q2, h2];simp only [List.mem_append, List.mem_singleton];constructor
     · rintro (⟨h, h'⟩ | rfl)
       · exact ⟨.inl h, h'⟩
       · exact ⟨.inr rfl, hl⟩
     · rintro ⟨h | rfl, h'⟩
       · exact .inl ⟨h, h'⟩
       · exact .inr rfl
   · rename_i hl
     refine ⟨h1, fun x => ?_⟩
     rw [h2];simp only [List.mem_append, List.mem_singleton];constructor
     · rintro ⟨h, h'⟩
       exact ⟨.inl h, h'⟩
     · rintro ⟨h | rfl, h'⟩
       · exact ⟨h, h'⟩
       · exact absurd h' hl
  have := a3Z l s (pre ++ [m]) _ this.1 this.2;simpa using this
theorem front_eq {l s : List M} (hs : s.Pairwise fun a b => ¬ lt b a) (h : ∀ k, k ∈ l ↔ k ∈ s) : front s = a2s l := by
 obtain ⟨q1, q2⟩ := a3Z l l [] [] List.Pairwise.nil (by simp)
 refine a4R (a2m hs).asc q1 fun m => ?_
 have q3 : m ∈ a2s l ↔ m ∈ [] ++ l ∧ least l m = true := q2 m;rw [a9q hs, q3];simp only [List.nil_append];rw [a6S h, h]
end Go.Ox.Mom
