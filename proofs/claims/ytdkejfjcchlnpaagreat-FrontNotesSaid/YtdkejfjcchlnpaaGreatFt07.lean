/-
  MomMath, Mom, Stab, packed: what the claim needs of them.
-/
import Derived.Test.YtdkejfjcchlnpaaGreatChecked
import Derived.Test.YtdkejfjcchlnpaaGreatFt05
import Derived.Test.YtdkejfjcchlnpaaGreatFt03
import Derived.StillTailTactics
set_option maxHeartbeats 40000000
open Go.Lib (hid)
set_option linter.unusedVariables false
set_option maxRecDepth 100000
namespace Go.Ox.Mom
abbrev M := Int × Int
def ok (m : M) : Bool := decide (0 <= m.1) && decide (m.1 < 65536) && (decide (0 <= m.2) && decide (m.2 < 65536))
def ahead (a b : M) : Bool := decide (a.1 <= b.1) && decide (a.2 <= b.2)
def cmp (a b : M) : Int := if a.1 < b.1 then -1 else if b.1 < a.1 then 1 else if a.2 < b.2 then -1 else if b.2 < a.2 then 1 else 0
def a0S (f : List M) (m : M) : Bool := f.any fun x => ahead x m
def lt (a b : M) : Prop := a.1 < b.1 ∨ (a.1 = b.1 ∧ a.2 < b.2)
theorem lt_irrefl (a : M) : ¬ lt a a := by unfold lt; omega
theorem lt_trans {a b c : M} (h : lt a b) (k : lt b c) : lt a c := by unfold lt at *; omega
theorem a3o (a b : M) : lt a b ∨ a = b ∨ lt b a := by
 obtain ⟨a1, a2⟩ := a;obtain ⟨b1, b2⟩ := b;unfold lt;simp only [Prod.mk.injEq];omega
theorem a65 {a b : M} : cmp a b < 0 ↔ lt a b := by
 unfold cmp lt
 split
 . simp_all
 split
 . simp; omega
 split
 . simp; omega
 split <;> simp <;> omega
theorem a68 (a : M) : ahead a a = true := by unfold ahead; simp
theorem a8z {a b c : M} (h : ahead a b = true) (k : ahead b c = true) : ahead a c = true := by
 unfold ahead at *;simp only [Bool.and_eq_true, decide_eq_true_eq] at *;omega
theorem a6M {a b : M} (h : ahead a b = true) (hne : a ≠ b) : lt a b := by
 obtain ⟨a1, a2⟩ := a;obtain ⟨b1, b2⟩ := b;unfold ahead at h;unfold lt;simp only [Bool.and_eq_true, decide_eq_true_eq, ne_eq, Prod.mk.injEq] at *;omega
theorem a1j {f : List M} {m : M} : a0S f m = true ↔ ∃ x ∈ f, ahead x m = true := by unfold a0S; simp
def step (out : List M) (m : M) : List M := if a0S out m = true then out else out ++ [m]
def front (s : List M) : List M := s.foldl step []
structure Good (pre out : List M) : Prop where
 cov : ∀ k ∈ pre, a0S out k = true
 sub : ∀ k ∈ out, k ∈ pre
 asc : out.Pairwise lt
 anti : out.Pairwise fun a b => ahead a b = false
theorem Good.step {pre out : List M} {m : M} (h : Good pre out) (hm : ∀ k ∈ pre, ¬ lt m k) : Good (pre ++ [m]) (step out m) := by
 unfold Mom.step
 split
 . rename_i hc
   refine ⟨fun k hk => ?_, fun k hk => List.mem_append_left _ (h.sub k hk), h.asc, h.anti⟩
   rcases List.mem_append.1 hk with hk | hk
   . exact h.cov k hk
   rw [List.mem_singleton.1 hk]; exact hc
 rename_i hc
 have hno : ∀ x ∈ out, ahead x m = false := fun x hx => by
  cases hq : ahead x m with
  | false => rfl
  | true => exact absurd (a1j.2 ⟨x, hx, hq⟩) hc
 refine ⟨fun k hk => ?_, fun k hk => ?_, ?_, ?_⟩
 . rcases List.mem_append.1 hk with hk | hk
   . obtain ⟨x, hx, hq⟩ := a1j.1 (h.cov k hk)
     exact a1j.2 ⟨x, List.mem_append_left _ hx, hq⟩
   rw [List.mem_singleton.1 hk];exact a1j.2 ⟨m, by simp, a68 m⟩
 . rcases List.mem_append.1 hk with hk | hk
   . exact List.mem_append_left _ (h.sub k hk)
   exact List.mem_append_right _ hk
 . refine List.pairwise_append.2 ⟨h.asc, by simp, fun a ha b hb => ?_⟩
   rw [List.mem_singleton.1 hb]
   rcases a3o a m with h1 | h1 | h1
   . exact h1
   . exfalso
     have := hno a ha;rw [h1, a68] at this
     cases this
   exact absurd h1 (hm a (h.sub a ha))
 refine List.pairwise_append.2 ⟨h.anti, by simp, fun a ha b hb => ?_⟩
 rw [List.mem_singleton.1 hb];exact hno a ha
theorem a69 : ∀ (s pre out : List M), Good pre out -> (pre ++ s).Pairwise (fun a b => ¬ lt b a) -> Good (pre ++ s) (s.foldl step out)
 | [], pre, out, h, _ => by simpa using h
 | m :: s, pre, out, h, hs => by
  have h1 : ∀ k ∈ pre, ¬ lt m k := fun k hk => (List.pairwise_append.1 hs).2.2 k hk m (List.mem_cons_self ..)
  have := a69 s (pre ++ [m]) _ (h.step h1) (by simpa using hs)
  simpa using this
theorem a38 {s : List M} (hs : s.Pairwise fun a b => ¬ lt b a) : Good s (front s) := by
 have := a69 s [] [] ⟨by simp, by simp, List.Pairwise.nil, List.Pairwise.nil⟩ (by simpa using hs)
 rw [List.nil_append] at this;exact this
def least (l : List M) (m : M) : Bool := l.all fun k => decide (k = m) || !ahead k m
theorem a3A {l : List M} {m : M} : least l m = true ↔ ∀ k ∈ l, k ≠ m -> ahead k m = false := by
 unfold least;simp only [List.all_eq_true, Bool.or_eq_true, decide_eq_true_eq, Bool.not_eq_true'];constructor
 . intro h k hk hne
   rcases h k hk with h | h
   . exact absurd h hne
   exact h
 intro h k hk
 by_cases hq : k = m
 . exact .inl hq
 exact .inr (h k hk hq)
theorem a8A {l s : List M} (h : ∀ k, k ∈ l ↔ k ∈ s) (m : M) : least l m = least s m := by
 rw [Bool.eq_iff_iff, a3A, a3A];constructor
 . intro hq k hk; exact hq k ((h k).2 hk)
 intro hq k hk; exact hq k ((h k).1 hk)
theorem b1x {s : List M} (hs : s.Pairwise fun a b => ¬ lt b a) (m : M) : m ∈ front s ↔ m ∈ s ∧ least s m = true := by
 have g := a38 hs;constructor
 . intro hm
   refine ⟨g.sub m hm, a3A.2 fun k hk hne => ?_⟩
   cases hq : ahead k m with
   | false => rfl
   | true =>
   exfalso;obtain ⟨x, hx, hxk⟩ := a1j.1 (g.cov k hk);have hxm := a8z hxk hq
   have hlt : lt x m := by
    by_cases he : x = m
    . exfalso
      subst he;exact lt_irrefl x (lt_trans (a6M hxk (Ne.symm hne)) (a6M hq hne))
    exact a6M hxm he
   -- x stands ahead of m in what ascends
   have key : ∀ (l : List M), l.Pairwise lt -> l.Pairwise (fun a b => ahead a b = false) -> x ∈ l -> m ∈ l -> lt x m -> ahead x m = true -> False := by
    intro l
    induction l with
    | nil => intro _ _ h; simp at h
    | cons a l ih =>
    intro h1 h2 ix im hl ha;have h1 := List.pairwise_cons.1 h1;have h2 := List.pairwise_cons.1 h2
    rcases List.mem_cons.1 ix with rfl | ix2
    . rcases List.mem_cons.1 im with rfl | im2
      . exact lt_irrefl _ hl
      have := h2.1 m im2; rw [ha] at this; cases this
    rcases List.mem_cons.1 im with rfl | im2
    . exact lt_irrefl _ (lt_trans hl (h1.1 x ix2))
    exact ih h1.2 h2.2 ix2 im2 hl ha
   exact key _ g.asc g.anti hx hm hlt hxm
 rintro ⟨hm, hl⟩;obtain ⟨x, hx, hq⟩ := a1j.1 (g.cov m hm)
 by_cases he : x = m
 . rw [<- he]; exact hx
 have := a3A.1 hl x (g.sub x hx) he;rw [hq] at this; cases this
theorem a6a : ∀ {a b : List M}, a.Pairwise lt -> b.Pairwise lt -> (∀ m, m ∈ a ↔ m ∈ b) -> a = b
 | [], [], _, _, _ => rfl
 | [], y :: b, _, _, h => by have := (h y).2 (List.mem_cons_self ..); simp at this
 | x :: a, [], _, _, h => by have := (h x).1 (List.mem_cons_self ..); simp at this
 | x :: a, y :: b, ha, hb, h => by
  have ha := List.pairwise_cons.1 ha;have hb := List.pairwise_cons.1 hb
  have e : x = y := by
   rcases a3o x y with q | q | q
   . exfalso
     rcases List.mem_cons.1 ((h x).1 (List.mem_cons_self ..)) with r | r
     . rw [r] at q; exact lt_irrefl _ q
     . exact lt_irrefl _ (lt_trans q (hb.1 x r))
   . exact q
   . exfalso
     rcases List.mem_cons.1 ((h y).2 (List.mem_cons_self ..)) with r | r
     . rw [r] at q; exact lt_irrefl _ q
     . exact lt_irrefl _ (lt_trans q (ha.1 y r))
  subst e;rw [a6a ha.2 hb.2 fun m => ?_]
  constructor
  . intro hm
    rcases List.mem_cons.1 ((h m).1 (List.mem_cons_of_mem _ hm)) with r | r
    . subst r; exact absurd (ha.1 _ hm) (lt_irrefl _)
    . exact r
  . intro hm
    rcases List.mem_cons.1 ((h m).2 (List.mem_cons_of_mem _ hm)) with r | r
    . subst r; exact absurd (hb.1 _ hm) (lt_irrefl _)
    . exact r
def place (out : List M) (m : M) : Nat := (out.takeWhile fun x => decide (cmp x m < 0)).length
def ins (out : List M) (m : M) : List M :=
 if out[place out m]? = some m then out else out.take (place out m) ++ m :: out.drop (place out m)
def a0Q (l : List M) (out : List M) (m : M) : List M := if least l m = true then ins out m else out
def a3j (l : List M) : List M := l.foldl (a0Q l) []
theorem a6b : ∀ (out : List M) (m : M), ∀ x ∈ out.take (place out m), lt x m
 | [], m, x, h => by simp at h
 | a :: out, m, x, h => by
  unfold place at h;rw [List.takeWhile_cons] at h
  split at h
  . rename_i ha
    simp only [List.length_cons, List.take_succ_cons] at h
    rcases List.mem_cons.1 h with rfl | h
    . exact a65.1 (by simpa using ha)
    . exact a6b out m x h
  . simp at h
theorem a6c : ∀ (out : List M) (m : M), out.Pairwise lt -> ∀ x ∈ out.drop (place out m), ¬ lt x m
 | [], m, _, x, h => by simp at h
 | a :: out, m, hp, x, h => by
  have hp' := List.pairwise_cons.1 hp;unfold place at h;rw [List.takeWhile_cons] at h
  split at h
  . simp only [List.length_cons, List.drop_succ_cons] at h
    exact a6c out m hp'.2 x h
  . rename_i ha
    simp only [List.length_nil, List.drop_zero] at h;have ha : ¬ lt a m := fun hq => ha (by simpa using a65.2 hq)
    rcases List.mem_cons.1 h with rfl | h
    . exact ha
    . intro hq; exact ha (lt_trans (hp'.1 x h) hq)
theorem b3S {out : List M} (m : M) (h : out.Pairwise lt) : (ins out m).Pairwise lt ∧ ∀ x, x ∈ ins out m ↔ x ∈ out ∨ x = m := by
 have h1 := a6b out m;have h2 := a6c out m h;unfold ins
 split
 . rename_i he
   exact ⟨h, fun x => ⟨.inl, fun hx => Or.elim hx id fun q => by rw [q]; exact List.mem_of_getElem? he⟩⟩
 rename_i he
 have hsplit := List.take_append_drop (place out m) out;generalize place out m = k at *
 have hnm : m ∉ out.drop k := by
  intro hm
  cases hd : out.drop k with
  | nil => rw [hd] at hm; simp at hm
  | cons y ys =>
  rw [hd] at hm h2
  have hy : out[k]? = some y := by
   have : (out.drop k)[0]? = some y := by rw [hd]; rfl
   rwa [List.getElem?_drop, Nat.add_zero] at this
  have hp : (y :: ys).Pairwise lt := by rw [<- hd]; exact h.sublist (List.drop_sublist _ _)
  rcases List.mem_cons.1 hm with rfl | hm
  . exact he hy
  exact h2 y (List.mem_cons_self ..) ((List.pairwise_cons.1 hp).1 m hm)
 refine ⟨?_, fun x => ?_⟩
 . rw [<- hsplit] at h
   obtain ⟨p1, p2, p3⟩ := List.pairwise_append.1 h;refine List.pairwise_append.2 ⟨p1, List.pairwise_cons.2 ⟨fun y hy => ?_, p2⟩, fun a ha b hb => ?_⟩
   . rcases a3o m y with q | q | q
     . exact q
     . rw [q] at hnm; exact absurd hy hnm
     exact absurd q (h2 y hy)
   rcases List.mem_cons.1 hb with rfl | hb
   . exact h1 a ha
   exact p3 a ha b hb
 conv => rhs; rw [<- hsplit]
 simp only [List.mem_append, List.mem_cons];constructor
 . rintro (h | h | h)
   . exact .inl (.inl h)
   . exact .inr h
   exact .inl (.inr h)
 rintro ((h | h) | h)
 . exact .inl h
 . exact .inr (.inr h)
 exact .inr (.inl h)
theorem a5b (l : List M) : ∀ (s pre : List M) (out : List M), out.Pairwise lt -> (∀ x, x ∈ out ↔ x ∈ pre ∧ least l x = true) ->
 (s.foldl (a0Q l) out).Pairwise lt ∧ ∀ x, x ∈ s.foldl (a0Q l) out ↔ x ∈ pre ++ s ∧ least l x = true
 | [], pre, out, h1, h2 => ⟨h1, by simpa using h2⟩
 | m :: s, pre, out, h1, h2 => by
  have : (a0Q l out m).Pairwise lt ∧ ∀ x, x ∈ a0Q l out m ↔ x ∈ pre ++ [m] ∧ least l x = true := by
   unfold a0Q
   split
   . rename_i hl
     obtain ⟨q1, q2⟩ := b3S m h1;refine ⟨q1, fun x => ?_⟩
     rw [q2, h2];simp only [List.mem_append, List.mem_singleton];constructor
     . rintro (⟨h, h'⟩ | rfl)
       . exact ⟨.inl h, h'⟩
       . exact ⟨.inr rfl, hl⟩
     . rintro ⟨h | rfl, h'⟩
       . exact .inl ⟨h, h'⟩
       . exact .inr rfl
   . rename_i hl
     refine ⟨h1, fun x => ?_⟩
     rw [h2];simp only [List.mem_append, List.mem_singleton];constructor
     . rintro ⟨h, h'⟩
       exact ⟨.inl h, h'⟩
     . rintro ⟨h | rfl, h'⟩
       . exact ⟨h, h'⟩
       . exact absurd h' hl
  have := a5b l s (pre ++ [m]) _ this.1 this.2;simpa using this
theorem front_eq {l s : List M} (hs : s.Pairwise fun a b => ¬ lt b a) (h : ∀ k, k ∈ l ↔ k ∈ s) : front s = a3j l := by
 obtain ⟨q1, q2⟩ := a5b l l [] [] List.Pairwise.nil (by simp)
 refine a6a (a38 hs).asc q1 fun m => ?_
 have q3 : m ∈ a3j l ↔ m ∈ [] ++ l ∧ least l m = true := q2 m;rw [b1x hs, q3];simp only [List.nil_append];rw [a8A h, h]
end Go.Ox.Mom
namespace Go.Proofs.YtdkejfjcchlnpaaGreat.Mo
open Go.RowKit Go.Ox
abbrev mV (m : Mom.M) : Value := .agg #[.int .i64 m.1, .int .i64 m.2]
def a1k (x y : Int) : Int := if x < y then -1 else if y < x then 1 else 0
theorem a9q (w : World) (T T' : TypeId) (a b c d : Value) :
 ((w.alloc (.cells #[a, b] T)).alloc (.cells #[c, d] T')).cell? ⟨w.heap.size, 0, none⟩ = some a ∧ ((w.alloc (.cells #[a, b] T)).alloc (.cells #[c, d] T')).cell? ⟨w.heap.size, 1, none⟩ = some b ∧
 ((w.alloc (.cells #[a, b] T)).alloc (.cells #[c, d] T')).cell? ⟨w.heap.size + 1, 0, none⟩ = some c ∧ ((w.alloc (.cells #[a, b] T)).alloc (.cells #[c, d] T')).cell? ⟨w.heap.size + 1, 1, none⟩ = some d := by
 have h1 := Blk.new w T #[a, b];have h2 := Blk.new (w.alloc (.cells #[a, b] T)) T' #[c, d];have h3 := h1.ext ((Ext.refl _).alloc (.cells #[c, d] T'));have hs : (w.alloc (.cells #[a, b] T)).heap.size = w.heap.size + 1 := by simp
 rw [hs] at h2;exact ⟨h3.cell 0, h3.cell 1, h2.cell 0, h2.cell 1⟩
theorem a5c (x : Int) (w : World) : Calls Tryz.prog 114 #[.int .i64 x] w fun e w' => e = .returned (.bool false) ∧ w = w' := by
 go_enter Tryz.func114, Tryz.ntmps114
 go_wp2
 go_ret
 exact ⟨rfl, rfl⟩
theorem a0s (x y : Int) (w : World) : Calls Tryz.prog 77 #[.int .i64 x, .int .i64 y] w fun e w' => e = .returned (.int .i64 (a1k x y)) ∧ w = w' := by
 unfold a1k
 by_cases h1 : x < y
 . rw [if_pos h1]
   go_enter Tryz.func77, Tryz.ntmps77
   go_wp2_with (go_at_call 114; refine (a5c _ _).mono ?_; rintro e w' ⟨rfl, rfl⟩)
   go_ret
   exact ⟨rfl, rfl⟩
 rw [if_neg h1]
 by_cases h2 : y < x
 . rw [if_pos h2]
   go_enter Tryz.func77, Tryz.ntmps77
   go_wp2_with (go_at_call 114; refine (a5c _ _).mono ?_; rintro e w' ⟨rfl, rfl⟩)
   go_ret
   exact ⟨rfl, rfl⟩
 rw [if_neg h2]
 go_enter Tryz.func77, Tryz.ntmps77
 go_wp2_with (go_at_call 114; refine (a5c _ _).mono ?_; rintro e w' ⟨rfl, rfl⟩)
 go_ret
 exact ⟨rfl, rfl⟩
def orI (a b : Int) : Int := if a = 0 then b else a
theorem b5S (a b : Mom.M) : orI (a1k a.1 b.1) (a1k a.2 b.2) = Mom.cmp a b := by
 unfold orI a1k Mom.cmp
 repeat' split
 all_goals omega
theorem b1y (v : Value) (a b : Int) (w : World) (hv : Rd w 1 v 2 [.int .i64 a, .int .i64 b]) : Calls Tryz.prog 76 #[v] w fun e w' => e = .returned (.int .i64 (orI a b)) ∧ w = w' := by
 obtain ⟨A, c, rfl, hrd⟩ := hv;obtain ⟨g, o, rfl⟩ := hrd.addr (by omega)
 have hc0 := hrd.get (j := 0) (u := .int .i64 a) rfl;have hc1 := hrd.get (j := 1) (u := .int .i64 b) rfl;rw [Nat.add_zero] at hc0;clear hrd;unfold orI
 go_enter Tryz.func76, Tryz.ntmps76
 go_wp2
 go_loop [8] (fun i => ∃ k : Nat, k <= 2 ∧ i = .int .i64 k ∧ (0 < k -> a = 0) ∧ (1 < k -> b = 0)) (fun i => 2 - (intOf i).toNat)
 case atStart => exact ⟨0, by omega, rfl, fun h => by omega, fun h => by omega⟩
 case round =>
 obtain ⟨k, hk, rfl, h0, h1⟩ := hrel
 match k, hk with
 | 0, _ =>
  by_cases ha : a = 0
  . subst ha
    clear h0 h1
    go_wp2
    exact ⟨⟨1, by omega, rfl, by simp, fun h => by omega⟩, by simp [intOf]⟩
  have hb : (a != 0) = true := by simpa using ha
  clear h0 h1
  go_wp2
  go_ret
  exact ⟨rfl, rfl⟩
 | 1, _ =>
  obtain rfl := h0 (by omega)
  by_cases hb : b = 0
  . subst hb
    clear h0 h1
    go_wp2
    exact ⟨⟨2, by omega, rfl, by simp, by simp⟩, by simp [intOf]⟩
  have hb2 : (b != 0) = true := by simpa using hb
  clear h0 h1
  go_wp2
  go_ret
  exact ⟨rfl, rfl⟩
 | 2, _ =>
  obtain rfl := h0 (by omega)
  obtain rfl := h1 (by omega)
  clear h0 h1
  go_wp2
  go_ret
  exact ⟨rfl, rfl⟩
theorem a0E (m : Mom.M) (w : World) : Calls Tryz.prog 40 #[mV m] w fun e w' => e = .returned (.int .i64 (if Mom.ok m = true then 0 else 40)) ∧ Ext w w' := by
 obtain ⟨e, r⟩ := m;unfold Mom.ok;dsimp only
 by_cases h1 : e < 0
 . rw [if_neg (by simp; omega)]
   go_enter Tryz.func40, Tryz.ntmps40
   go_wp2
   go_ret
   exact ⟨rfl, (Ext.refl _).alloc _⟩
 by_cases h2 : 65536 <= e
 . rw [if_neg (by simp; omega)]
   go_enter Tryz.func40, Tryz.ntmps40
   go_wp2
   go_ret
   exact ⟨rfl, (Ext.refl _).alloc _⟩
 by_cases h3 : r < 0
 . rw [if_neg (by simp; omega)]
   go_enter Tryz.func40, Tryz.ntmps40
   go_wp2
   go_ret
   exact ⟨rfl, (Ext.refl _).alloc _⟩
 by_cases h4 : 65536 <= r
 . rw [if_neg (by simp; omega)]
   go_enter Tryz.func40, Tryz.ntmps40
   go_wp2
   go_ret
   exact ⟨rfl, (Ext.refl _).alloc _⟩
 rw [if_pos (by simp; omega)]
 go_enter Tryz.func40, Tryz.ntmps40
 go_wp2
 go_ret
 exact ⟨rfl, (Ext.refl _).alloc _⟩
theorem a5d (a b : Mom.M) (w : World) : Calls Tryz.prog 71 #[mV a, mV b] w fun e w' => e = .returned (.bool (Mom.ahead a b)) ∧ Ext w w' := by
 obtain ⟨a1, a2⟩ := a;obtain ⟨b1, b2⟩ := b;unfold Mom.ahead;dsimp only
 by_cases h1 : a1 <= b1
 . have d1 : decide (a1 <= b1) = true := by simpa using h1
   rw [d1, Bool.true_and]
   by_cases h2 : a2 <= b2
   . have d2 : decide (a2 <= b2) = true := by simpa using h2
     rw [d2]
     go_enter Tryz.func71, Tryz.ntmps71
     go_wp2
     go_ret
     exact ⟨rfl, ((Ext.refl _).alloc _).alloc _⟩
   have d2 : decide (a2 <= b2) = false := by simpa using h2
   rw [d2]
   go_enter Tryz.func71, Tryz.ntmps71
   go_wp2
   go_ret
   exact ⟨rfl, ((Ext.refl _).alloc _).alloc _⟩
 have d1 : decide (a1 <= b1) = false := by simpa using h1
 rw [d1, Bool.false_and]
 go_enter Tryz.func71, Tryz.ntmps71
 go_wp2
 go_ret
 exact ⟨rfl, ((Ext.refl _).alloc _).alloc _⟩
theorem a2u (a b : Mom.M) (w : World) : Calls Tryz.prog 78 #[mV a, mV b] w fun e w' => e = .returned (.int .i64 (Mom.cmp a b)) ∧ a04 w w' := by
 have HC := hid (b5S a b);obtain ⟨a1, a2⟩ := a;obtain ⟨b1, b2⟩ := b;dsimp only at *
 go_enter Tryz.func78, Tryz.ntmps78
 go_wp2
 have hb := a9q w 29 29 (.int .i64 a1) (.int .i64 a2) (.int .i64 b1) (.int .i64 b2);obtain ⟨c1, c2, c3, c4⟩ := hb;generalize hw2 : ((w.alloc (.cells #[.int .i64 a1, .int .i64 a2] 29)).alloc (.cells #[.int .i64 b1, .int .i64 b2] 29)) = w2 at *;have hx : a04 w w2 := by rw [<- hw2]; exact ((a04.refl _).alloc _).alloc _
 clear hw2;refine a1i [] [] a04 a04 (fun _ => True) (by kernel_rfl) (by rfl) (by rfl) (by kernel_rfl) (by kernel_rfl) (by kernel_rfl) (fun _ _ _ x y => x.trans y) a04.refl (fun _ _ x => x) (a04.refl _).drew (fun _ _ x _ => x) trivial ?_
 refine ya ?_;refine yl1 c1 ?_;refine ya ?_;refine yl1 c3 ?_;refine a09 (fun v _ => v = .int .i64 (a1k a1 b1)) rfl rfl (a03 rfl) rfl (by exact a0g) ?_ ?_
 . intro a w' hR h1 h2 K hK
   have e1 : _ = _ := h1;have e2 : _ = _ := h2;go_simp;refine (a0s a1 b1 w').mono ?_;rintro e w2 ⟨rfl, rfl⟩;exact hK _ _ (a04.refl _) rfl
 refine ya ?_;refine yl1 c2 ?_;refine ya ?_;refine yl1 c4 ?_;refine a09 (fun v _ => v = .int .i64 (a1k a2 b2)) rfl rfl (a03 rfl) rfl (by exact a0g) ?_ ?_
 . intro a w' hR h1 h2 K hK
   have e1 : _ = _ := h1;have e2 : _ = _ := h2;go_simp;refine (a0s a2 b2 w').mono ?_;rintro e w2 ⟨rfl, rfl⟩;exact hK _ _ (a04.refl _) rfl
 refine a09 (fun v w2 => Rd w2 1 v 2 [.int .i64 (a1k a1 b1), .int .i64 (a1k a2 b2)]) rfl rfl (a03 rfl) rfl (by first | exact (fun _ _ _ h k => Rd.ext h k) | exact (fun _ _ _ h k => Rd.ext h (a04.ext k)) | exact (fun _ _ _ h k => Rd.extV h k)) ?_ ?_
 . intro a w' hR h1 h2 K hK
   have e1 : _ = _ := h1;have e2 : _ = _ := h2;have q1 : a.tmps[9]?.getD undef = .int .i64 (a1k a1 b1) := by simpa using e1
   have q2 : a.tmps[14]?.getD undef = .int .i64 (a1k a2 b2) := by simpa using e2
   go_simp;exact hK _ _ ((a04.refl _).alloc _) (Rd.lit _ #[.int .i64 (a1k a1 b1), .int .i64 (a1k a2 b2)] _ 2 rfl (by unfold maxLen; omega))
 refine a09 (fun v _ => v = .int .i64 (orI (a1k a1 b1) (a1k a2 b2))) rfl rfl (a03 rfl) rfl a0g ?_ ?_
 . intro a w' hR h1 K hK
   obtain ⟨x, ex, fx⟩ : ∃ x, a.tmps.getD 15 undef = x ∧ (fun v w2 => Rd w2 1 v 2 [.int .i64 (a1k a1 b1), .int .i64 (a1k a2 b2)]) x w' := ⟨_, rfl, h1⟩
   go_simp;refine (b1y _ _ _ w' fx).mono ?_;rintro e w2 ⟨rfl, rfl⟩;exact hK _ _ (a04.refl _) rfl
 refine ya ?_;refine a01 ?_;intro w5 hx5 hS
 iterate 10 (rintro _ rfl)
 iterate 1 (intro _ hz; clear hz)
 iterate 2 (rintro _ rfl)
 dsimp only [a0y];go_simp
 go_wp2
 go_ret
 rw [HC.o];exact ⟨rfl, hx.trans hx5⟩
end Go.Proofs.YtdkejfjcchlnpaaGreat.Mo
namespace Go.Ox.Stab
open Go.Sort
variable {α : Type} [Inhabited α]
def a2Q (a b : Nat) : Nat -> Array α -> Array α
 | 0, d => d
 | n + 1, d => swp (a2Q a b n d) (a + n) (b + n)
theorem a1l (a b : Nat) : ∀ (n : Nat) (d : Array α), (a2Q a b n d).size = d.size
 | 0, d => rfl
 | n + 1, d => by rw [a2Q, swp_size, a1l a b n d]
theorem a6N {d : Array α} {i j : Nat} (h : i = j) : d[i]! = d[j]! := by rw [h]
theorem a2h {a b : Nat} : ∀ (n : Nat) (d : Array α), a + n <= b -> b + n <= d.size -> ∀ k,
 (a2Q a b n d)[k]! = if a <= k ∧ k < a + n then d[k - a + b]! else if b <= k ∧ k < b + n then d[k - b + a]! else d[k]!
 | 0, d, _, _, k => by
  rw [a2Q, if_neg (by omega), if_neg (by omega)]
 | n + 1, d, h1, h2, k => by
  rw [a2Q, swp_get _ (by rw [a1l]; omega) (by rw [a1l]; omega)]
  rw [a2h n d (by omega) (by omega), a2h n d (by omega) (by omega), a2h n d (by omega) (by omega)]
  repeat' split
  all_goals first | exact a6N (by omega) | (exfalso; omega)
theorem a3a {a b lo hi : Nat} : ∀ (n : Nat) (d : Array α), lo <= a -> a + n <= hi -> lo <= b -> b + n <= hi -> hi <= d.size -> PermIn lo hi d (a2Q a b n d)
 | 0, d, _, _, _, _, _ => permIn_refl d lo hi
 | n + 1, d, h1, h2, h3, h4, h5 => permIn_trans _ _ _ lo hi (a3a n d h1 (by omega) h3 (by omega) h5) (swp_permIn _ lo hi _ _ (by omega) (by omega) (by omega) (by omega) (by rw [a1l]; exact h5))
def a0H (lo m hi : Nat) (d : Array α) (k : Nat) : α :=
 if lo <= k ∧ k < lo + (hi - m) then d[k + (m - lo)]! else if lo + (hi - m) <= k ∧ k < hi then d[k - (hi - m)]! else d[k]!
theorem a4a {lo m hi : Nat} {d : Array α} (h : lo = m ∨ m = hi) (h1 : lo <= m) (h2 : m <= hi) (k : Nat) : a0H lo m hi d k = d[k]! := by
 unfold a0H
 repeat' split
 all_goals first | rfl | exact a6N (by omega) | (exfalso; omega)
theorem b0m {m i j : Nat} {d : Array α} (hi : i <= m) (hij : j < i) (hs : m + j <= d.size) (k : Nat) :
 a0H (m - (i - j)) m (m + j) (a2Q (m - i) m j d) k = a0H (m - i) m (m + j) d k := by
 have g := a2h (a := m - i) (b := m) j d (by omega) hs
 unfold a0H;rw [g, g, g]
 repeat' split
 all_goals first | exact a6N (by omega) | (exfalso; omega)
theorem a8B {m i j : Nat} {d : Array α} (hi : i <= m) (hij : i < j) (hs : m + j <= d.size) (k : Nat) :
 a0H (m - i) m (m + (j - i)) (a2Q (m - i) (m + j - i) i d) k = a0H (m - i) m (m + j) d k := by
 have g := a2h (a := m - i) (b := m + j - i) i d (by omega) (by omega)
 unfold a0H;rw [g, g, g]
 repeat' split
 all_goals first | exact a6N (by omega) | (exfalso; omega)
theorem b0n {m i : Nat} {d : Array α} (hi : i <= m) (hs : m + i <= d.size) (k : Nat) :
 (a2Q (m - i) m i d)[k]! = a0H (m - i) m (m + i) d k := by
 rw [a2h (a := m - i) (b := m) i d (by omega) hs]
 unfold a0H
 repeat' split
 all_goals first | exact a6N (by omega) | (exfalso; omega)
variable {lt : α -> α -> Bool}
def SM (lt : α -> α -> Bool) (a m b : Nat) (d d' : Array α) : Prop := PermIn a b d d' ∧ (SortedIn lt a m d -> SortedIn lt m b d -> SortedIn lt a b d')
theorem SM.left (d : Array α) (a b : Nat) : SM lt a a b d d := ⟨permIn_refl d a b, fun _ h => h⟩
theorem SM.right (d : Array α) (a b : Nat) : SM lt a b b d d := ⟨permIn_refl d a b, fun h _ => h⟩
theorem SM.adj (hO : SWO lt) {a m b : Nat} {d : Array α} (h : m <= a ∨ b <= m ∨ lt d[m]! d[m - 1]! = false) : SM lt a m b d d := by
 refine ⟨permIn_refl d a b, fun h1 h2 i j hi hij hj => ?_⟩
 by_cases q1 : j < m
 . exact h1 i j hi hij q1
 by_cases q2 : m <= i
 . exact h2 i j q2 hij hj
 have h3 : lt d[m]! d[m - 1]! = false := by
  rcases h with h | h | h
  . omega
  . omega
  . exact h
 have h4 : lt d[m - 1]! d[i]! = false := by
  by_cases q : i = m - 1
  . subst q; exact hO.irrefl _
  exact h1 i (m - 1) hi (by omega) (by omega)
 have h5 : lt d[j]! d[m]! = false := by
  by_cases q : j = m
  . subst q; exact hO.irrefl _
  exact h2 m j (Nat.le_refl _) (by omega) hj
 exact hO.ntrans _ _ _ (hO.ntrans _ _ _ h5 h3) h4
theorem SM.join (hO : SWO lt) {a m b mid st en : Nat} {d d1 d2 d3 : Array α} (hs : b <= d.size) (h1 : a <= st) (h2 : st <= m) (h3 : m <= en) (h4 : en <= b) (h5 : st + en = mid + m)
 (hP : st = a ∨ en = b ∨ lt d[en]! d[st - 1]! = false) (hQ : st = m ∨ en = m ∨ lt d[en - 1]! d[st]! = true)
 (hd : ∀ k, d1[k]! = a0H st m en d k) (hp1 : PermIn a b d d1) (hm1 : SM lt a st mid d1 d2) (hm2 : SM lt mid en b d2 d3) : SM lt a m b d d3 := by
 have s1 : d1.size = d.size := hp1.1;have s2 : d2.size = d1.size := hm1.1.1;have hp2 := permIn_mono d1 d2 a mid a b (Nat.le_refl _) (by omega) (by omega) hm1.1
 have hp3 := permIn_mono d2 d3 mid b a b (by omega) (Nat.le_refl _) (by omega) hm2.1
 refine ⟨permIn_trans _ _ _ a b (permIn_trans _ _ _ a b hp1 hp2) hp3, fun S1 S2 => ?_⟩
 have g1 : ∀ k, a <= k -> k < st -> d1[k]! = d[k]! := fun k hk1 hk2 => by rw [hd]; unfold a0H; rw [if_neg (by omega), if_neg (by omega)]
 have g2 : ∀ k, st <= k -> k < mid -> d1[k]! = d[k + (m - st)]! := fun k hk1 hk2 => by rw [hd]; unfold a0H; rw [if_pos (by omega)]
 have g3 : ∀ k, mid <= k -> k < en -> d1[k]! = d[k - (en - m)]! := fun k hk1 hk2 => by rw [hd]; unfold a0H; rw [if_neg (by omega), if_pos (by omega)]
 have g4 : ∀ k, en <= k -> d1[k]! = d[k]! := fun k hk1 => by rw [hd]; unfold a0H; rw [if_neg (by omega), if_neg (by omega)]
 have hA : SortedIn lt a mid d2 := hm1.2 (fun i j hi hij hj => by rw [g1 i hi (by omega), g1 j (by omega) hj]; exact S1 i j hi hij (by omega))
  (fun i j hi hij hj => by rw [g2 i hi (by omega), g2 j (by omega) hj]; exact S2 _ _ (by omega) (by omega) (by omega))
 have e2 : ∀ k, mid <= k -> d2[k]! = d1[k]! := fun k hk => hm1.1.2.1 k (.inr hk)
 have hB : SortedIn lt mid b d3 := hm2.2 (fun i j hi hij hj => by rw [e2 i hi, e2 j (by omega), g3 i hi (by omega), g3 j (by omega) hj]; exact S1 _ _ (by omega) (by omega) (by omega))
  (fun i j hi hij hj => by rw [e2 i (by omega), e2 j (by omega), g4 i hi, g4 j (by omega)]; exact S2 _ _ (by omega) hij hj)
 have e3 : ∀ k, k < mid -> d3[k]! = d2[k]! := fun k hk => hm2.1.2.1 k (.inl hk)
 -- each of the first ones is at most each of the others
 have cross : ∀ i, a <= i -> i < mid -> ∀ j, mid <= j -> j < b -> lt d1[j]! d1[i]! = false := by
  intro i hi1 hi2 j hj1 hj2
  by_cases q1 : i < st
  . rw [g1 i hi1 q1]
    by_cases q2 : j < en
    . rw [g3 j hj1 q2]
      exact S1 _ _ hi1 (by omega) (by omega)
    rw [g4 j (by omega)]
    have k1 : lt d[en]! d[st - 1]! = false := by
     rcases hP with h | h | h
     . omega
     . omega
     exact h
    have k2 : lt d[st - 1]! d[i]! = false := by
     by_cases q : i = st - 1
     . subst q; exact hO.irrefl _
     exact S1 i (st - 1) hi1 (by omega) (by omega)
    have k3 : lt d[j]! d[en]! = false := by
     by_cases q : j = en
     . subst q; exact hO.irrefl _
     exact S2 en j h3 (by omega) hj2
    exact hO.ntrans _ _ _ (hO.ntrans _ _ _ k3 k1) k2
  rw [g2 i (by omega) hi2]
  by_cases q2 : j < en
  . rw [g3 j hj1 q2]
    have k1 : lt d[en - 1]! d[st]! = true := by
     rcases hQ with h | h | h
     . omega
     . omega
     exact h
    have k2 : lt d[j - (en - m)]! d[st]! = false := by
     by_cases q : j - (en - m) = st
     . rw [q]; exact hO.irrefl _
     exact S1 st _ h1 (by omega) (by omega)
    have k3 : lt d[en - 1]! d[i + (m - st)]! = false := by
     by_cases q : i + (m - st) = en - 1
     . rw [q]; exact hO.irrefl _
     exact S2 _ (en - 1) (by omega) (by omega) (by omega)
    exact hO.ntrans _ _ _ (hO.ntrans _ _ _ k2 (hO.asymmA k1)) k3
  rw [g4 j (by omega)]
  exact S2 _ _ (by omega) (by omega) hj2
 have c2 : ∀ i, a <= i -> i < mid -> ∀ j, mid <= j -> j < b -> lt d2[j]! d2[i]! = false := by
  have := permIn_all d1 d2 a mid (fun x => ∀ j, mid <= j -> j < b -> lt d1[j]! x = false) (by omega) hm1.1 cross
  intro i hi1 hi2 j hj1 hj2;rw [e2 j hj1];exact this i hi1 hi2 j hj1 hj2
 have c3 : ∀ j, mid <= j -> j < b -> ∀ i, a <= i -> i < mid -> lt d3[j]! d2[i]! = false :=
  permIn_all d2 d3 mid b (fun y => ∀ i, a <= i -> i < mid -> lt y d2[i]! = false) (by omega) hm2.1 (fun j hj1 hj2 i hi1 hi2 => c2 i hi1 hi2 j hj1 hj2)
 intro i j hi hij hj
 by_cases q1 : j < mid
 . rw [e3 i (by omega), e3 j q1]; exact hA i j hi hij q1
 by_cases q2 : mid <= i
 . exact hB i j q2 hij hj
 rw [e3 i (by omega)]
 exact c3 j (by omega) hj i hi (by omega)
def a19 (lt : α -> α -> Bool) (bs lo hi : Nat) (d : Array α) : Prop := ∀ i j, lo <= i -> i < j -> j < hi -> i / bs = j / bs -> lt d[j]! d[i]! = false
theorem a7A {bs u i : Nat} (h0 : 0 < bs) (h : i < bs * u) : i / bs < u := by rw [Nat.div_lt_iff_lt_mul h0, Nat.mul_comm]; exact h
theorem a7B {bs u i : Nat} (h0 : 0 < bs) (h : bs * u <= i) : u <= i / bs := by rw [Nat.le_div_iff_mul_le h0, Nat.mul_comm]; exact h
theorem b5l {bs u i : Nat} (h0 : 0 < bs) (h : bs * u <= i) (h2 : i < bs * u + bs) : i / bs = u := by
 have h1 := a7B h0 h;have h3 := a7A (u := u + 1) h0 (by rw [Nat.mul_add]; omega : i < bs * (u + 1))
 omega
theorem a19.more {bs u hi : Nat} {d d' : Array α} (h0 : 0 < bs) (h : a19 lt bs 0 (bs * u) d) (hh : hi <= bs * u + bs) (he : ∀ k, k < bs * u -> d'[k]! = d[k]!) (hs : SortedIn lt (bs * u) hi d') : a19 lt bs 0 hi d' := by
 intro i j hi1 hij hj hq
 by_cases q1 : j < bs * u
 . rw [he i (by omega), he j q1]; exact h i j hi1 hij q1 hq
 by_cases q2 : bs * u <= i
 . exact hs i j q2 hij hj
 have h1 := a7A h0 (by omega : i < bs * u)
 have h2 := a7B h0 (by omega : bs * u <= j)
 omega
theorem a19.sorted {bs u lo n hi : Nat} {d : Array α} (h0 : 0 < bs) (h : a19 lt bs lo n d) (hl : lo <= bs * u) (h1 : hi <= bs * u + bs) (h2 : hi <= n) : SortedIn lt (bs * u) hi d := fun i j hi hij hj =>
 h i j (by omega) hij (by omega) (by rw [b5l h0 hi (by omega), b5l h0 (by omega : bs * u <= j) (by omega)])
theorem a19.all {bs n : Nat} {d : Array α} (h : a19 lt bs 0 n d) (hn : n <= bs) : SortedIn lt 0 n d := fun i j hi hij hj =>
 h i j hi hij hj (by rw [Nat.div_eq_of_lt (by omega), Nat.div_eq_of_lt (by omega)])
theorem a19.keep {bs lo hi lo' hi' : Nat} {d d' : Array α} (h : a19 lt bs lo hi d) (h1 : lo <= lo') (h2 : hi' <= hi) (he : ∀ k, lo' <= k -> k < hi' -> d'[k]! = d[k]!) : a19 lt bs lo' hi' d' := fun i j hi hij hj hq => by
 rw [he i hi (by omega), he j (by omega) hj]
 exact h i j (by omega) hij (by omega) hq
theorem a19.nil (bs : Nat) (d : Array α) : a19 lt bs 0 0 d := fun i j _ _ hj => by omega
end Go.Ox.Stab
