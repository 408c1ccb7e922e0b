/-
  PlGraph, PlWalk, packed: what the claim needs of them.
-/
import Derived.Test.YtdkejfjcchlnpaaGreatFt25
set_option linter.unusedVariables false
namespace Go.Ox.Pl
open Go.Ox.Gr Go.Proofs.YtdkejfjcchlnpaaGreat
def a6t (g : G) (q : Int × Int) : Int := ((gNd g q).getD default).op
def inP (g : G) : Int × Int := ((lpN g).ins.head!, -1)
def a3R (g : G) : Int × Int := (a05 g.1, (lpN g).body.length - 1)
def a5U (g : G) (p q : Int × Int) : Option (Bool × Int) :=
 if (gUs g p).any (fun u => u.1 == q) = true then some (decide (p.2 < 0) && decide (0 <= q.2), 0)
 else if a05 g.1 < 0 then none
 else if p = inP g ∧ a6t g q = 10 then some (true, 0)
 else if p = a3R g ∧ (a6t g q = 10 ∨ a6t g q = 11) then some (false, 1)
 else if p = a3R g ∧ a6t g q = 9 then some (true, 0)
 else none
def a7d (g : G) (p : Int × Int) : List Ar := (gPl g).filterMap fun q => (a5U g p q).map fun w => ((p, q), w)
def a1J (g : G) : List Ar := (gPl g).flatMap (a7d g)
theorem a1A {g : G} {x : Ar} : x ∈ a1J g ↔ x.1.1 ∈ gPl g ∧ x.1.2 ∈ gPl g ∧ a5U g x.1.1 x.1.2 = some x.2 := by
 unfold a1J a7d;rw [List.mem_flatMap];constructor
 . rintro ⟨p, hp, hx⟩
   obtain ⟨q, hq, he⟩ := List.mem_filterMap.1 hx
   cases hf : a5U g p q with
   | none => rw [hf] at he; cases he
   | some w =>
   rw [hf] at he;simp only [Option.map_some, Option.some.injEq] at he;subst he;exact ⟨hp, hq, hf⟩
 rintro ⟨h1, h2, h3⟩;refine ⟨x.1.1, h1, List.mem_filterMap.2 ⟨x.1.2, h2, ?_⟩⟩;rw [h3]; rfl
theorem a4p (g : G) : (gPl g).Pairwise plt := by
 unfold gPl
 split
 . exact a3Q _ _
 exact List.Pairwise.nil
theorem a2F (g : G) (p : Int × Int) (f : Int × Int -> Option (Bool × Int)) : ∀ (l : List (Int × Int)), l.Pairwise plt -> (l.filterMap fun q => (f q).map fun w => (((p, q), w) : Ar)).Pairwise (fun a b => ltK a.1 b.1)
 | [], _ => List.Pairwise.nil
 | q :: l, h => by
  rw [List.pairwise_cons] at h;have ih := a2F g p f l h.2;rw [List.filterMap_cons]
  cases hf : f q with
  | none => simpa [hf] using ih
  | some w =>
   simp only [Option.map_some];refine List.pairwise_cons.2 ⟨fun y hy => ?_, ih⟩
   obtain ⟨q', hq', he⟩ := List.mem_filterMap.1 hy
   cases hf' : f q' with
   | none => rw [hf'] at he; cases he
   | some w' =>
    rw [hf'] at he;simp only [Option.map_some, Option.some.injEq] at he;subst he;exact .inr ⟨rfl, h.1 q' hq'⟩
theorem a5B (g : G) (F : Int × Int -> List Ar) (hF : ∀ p, (F p).Pairwise (fun a b => ltK a.1 b.1)) (hk : ∀ p, ∀ a ∈ F p, a.1.1 = p) : ∀ (l : List (Int × Int)), l.Pairwise plt -> (l.flatMap F).Pairwise (fun a b => ltK a.1 b.1)
 | [], _ => List.Pairwise.nil
 | p :: l, h => by
  rw [List.pairwise_cons] at h;rw [List.flatMap_cons];refine List.pairwise_append.2 ⟨hF p, a5B g F hF hk l h.2, fun a ha b hb => .inl ?_⟩
  obtain ⟨p', hp', hb'⟩ := List.mem_flatMap.1 hb;rw [hk p a ha, hk p' b hb'];exact h.1 p' hp'
theorem a8d (g : G) : (a1J g).Pairwise (fun a b => ltK a.1 b.1) := by
 refine a5B g (a7d g) (fun p => a2F g p _ _ (a4p g)) (fun p a ha => ?_) _ (a4p g)
 obtain ⟨q, hq, he⟩ := List.mem_filterMap.1 ha
 cases hf : a5U g p q with
 | none => rw [hf] at he; cases he
 | some w =>
 rw [hf] at he;simp only [Option.map_some, Option.some.injEq] at he;subst he; rfl
theorem b4y {name lp : Int} {x : (Int × Int) × Int} {b : List Nd} (h : x ∈ ouN name lp b) : ∃ (k : Nat) (hk : k < b.length), x.1 = (lp, (k : Int)) ∧ b[k].op = 11 ∧ name ∈ outs b := by
 have hm := b6E h;unfold ouN at h;obtain ⟨y, hy, he⟩ := List.mem_filterMap.1 h
 by_cases hn : y.1.op = 11 ∧ y.1.a = name
 . rw [if_pos hn] at he
   injection he with he
   subst he;obtain ⟨h1, h2⟩ := List.mem_zipIdx' hy;obtain ⟨_, _, _, h5⟩ := hm;exact ⟨y.2, h1, rfl, by rw [<- h2]; exact hn.1, h5⟩
 rw [if_neg hn] at he; cases he
theorem a3S {l : List Nd} {out : Int} (hok : gOk (l, out) = true) {p : Int × Int} (hp : p ∈ a0i l 0) {x : (Int × Int) × Int} (hx : x ∈ gUs (l, out) p) :
 (∃ (k m : Nat) (hm : m < l.length), p = ((k : Int), -1) ∧ x.1 = ((m : Int), -1) ∧ k < m ∧ (k : Int) ∈ l[m].ins) ∨
 (∃ (k n m : Nat) (hn : n < l.length) (hm : m < l[n].body.length), p = ((k : Int), -1) ∧ a05 l = (n : Int) ∧ x.1 = ((n : Int), (m : Int)) ∧ k < n ∧ l[n].body[m].op = 11) ∨
 (∃ (k j m : Nat) (hk : k < l.length) (hm : m < l[k].body.length), p = ((k : Int), (j : Int)) ∧ x.1 = ((k : Int), (m : Int)) ∧ j < m ∧ (j : Int) ∈ l[k].body[m].ins) := by
 obtain ⟨k, hk, h1, h2⟩ := a0F.1 hp;rw [Nat.zero_add] at h1;obtain ⟨p1, p2⟩ := p;dsimp only at h1 h2;subst h1
 rcases h2 with rfl | ⟨h2, h3⟩
 . rw [b2x hok hk] at hx
   unfold a5S a0N at hx
   rcases List.mem_append.1 hx with hx | hx
   . obtain ⟨m, hm, e1, e2⟩ := a4o hx
     rw [Nat.zero_add] at e1;have := (a4i (a1X hok hm).1).2.2.2 _ e2;exact .inl ⟨k, m, hm, rfl, e1, by omega, e2⟩
   by_cases h0 : 0 <= a05 l
   . rw [if_pos h0] at hx
     obtain ⟨m, hm, e1, e3, e2⟩ := b4y hx;have hr := a1w l;obtain ⟨n, hn⟩ : ∃ n : Nat, a05 l = (n : Int) := ⟨(a05 l).toNat, by omega⟩
     have hlp : n < l.length := by omega
     have e4 : l[(a05 l).toNat]?.getD default = l[n] := by rw [hn, Int.toNat_natCast, List.getElem?_eq_getElem hlp]; rfl
     have hm' : m < l[n].body.length := by rw [<- e4]; exact hm
     have e3' : l[n].body[m].op = 11 := by rw [<- e3]; congr 1; simp only [e4]
     rw [e4] at e2
     rcases (a1X hok hlp).2.2.2 with ⟨_, hb⟩ | ⟨_, hb⟩
     . have := b2y hb e2
       exact .inr (.inl ⟨k, n, m, hlp, hm', rfl, hn, by rw [e1, hn], by omega, e3'⟩)
     rw [hb] at hm'; simp at hm'
   rw [if_neg h0] at hx; simp at hx
 obtain ⟨j, rfl⟩ : ∃ j : Nat, p2 = (j : Int) := ⟨p2.toNat, by omega⟩
 have hj : j < l[k].body.length := by omega
 rw [b5z hok hk hj] at hx;unfold a0N at hx;obtain ⟨m, hm, e1, e2⟩ := a4o hx;rw [Nat.zero_add] at e1
 rcases (a1X hok hk).2.2.2 with ⟨_, hb⟩ | ⟨_, hb⟩
 . have := (a4i ((a5x hb).2.2 m hm).1).2.2.2 _ e2
   exact .inr (.inr ⟨k, j, m, hk, hm, rfl, e1, by omega, e2⟩)
 rw [hb] at hj; simp at hj
theorem a7e {l : List Nd} {out : Int} (hok : gOk (l, out) = true) {k : Nat} (hk : k < l.length) : a6t (l, out) ((k : Int), -1) = l[k].op := by
 unfold a6t gNd;rw [if_pos hok, a1M hk]; rfl
theorem a97 {l : List Nd} {out : Int} (hok : gOk (l, out) = true) {k j : Nat} (hk : k < l.length) (hj : j < l[k].body.length) : a6t (l, out) ((k : Int), (j : Int)) = l[k].body[j].op := by
 unfold a6t gNd;rw [if_pos hok, a2n hk hj]; rfl
theorem b6H {l : List Nd} {out : Int} (hok : gOk (l, out) = true) {k : Nat} (hk : k < l.length) : l[k].op ≠ 10 ∧ l[k].op ≠ 11 := by
 refine ⟨fun q => ?_, b2n hok hk⟩
 have := (a1X hok hk).2.2.1;unfold a2J at this;rw [if_neg (by omega), if_neg (by omega), if_pos q] at this
 simp at this
theorem a98 {l : List Nd} {out : Int} (hok : gOk (l, out) = true) {k j : Nat} (hk : k < l.length) (hj : j < l[k].body.length) : a05 l = (k : Int) ∧ l[k].op = 9 ∧ l[k].body[j].op ≠ 9 ∧ (l[k].body[j].op = 10 ∨ l[k].body[j].op = 11 -> l[k].body[j].ins = []) := by
 rcases (a1X hok hk).2.2.2 with ⟨h9, hb⟩ | ⟨_, hb⟩
 . have hbo := (a5x hb).2.2 j hj
   refine ⟨a2B hk (a1d hok).2.2.2.2.2 h9, h9, fun q => ?_, fun q => ?_⟩
   . have := hbo.2.2.1
     unfold a2J at this;rw [if_neg (by omega), if_pos q] at this
     simp only [Bool.and_eq_true, decide_eq_true_eq] at this;omega
   have := hbo.1;unfold base at this;simp only [Bool.and_eq_true, decide_eq_true_eq] at this;have h1 := this.2.1;refine List.eq_nil_of_length_eq_zero ?_;have : arity l[k].body[j].op = 0 := by rcases q with q | q <;> rw [q] <;> rfl
   omega
 rw [hb] at hj; simp at hj
theorem a5C {lp op : Int} {v : Int × Int} : ∀ {b : List Nd} {i : Nat}, v ∈ bgF lp op b i ↔ ∃ (m : Nat) (hm : m < b.length), v = (lp, ((i + m : Nat) : Int)) ∧ b[m].op = op
 | [], i => by simp [bgF]
 | n :: b, i => by
  have ih := a5C (lp := lp) (op := op) (v := v) (b := b) (i := i + 1);unfold bgF;constructor
  . intro h
    by_cases q : n.op = op
    . rw [if_pos q] at h
      rcases List.mem_cons.1 h with e | e
      . exact ⟨0, by simp, by simpa using e, by simpa using q⟩
      . obtain ⟨m, hm, h1, h2⟩ := ih.1 e
        exact ⟨m + 1, by simpa using hm, by rw [h1]; congr 2; omega, by simpa using h2⟩
    . rw [if_neg q] at h
      obtain ⟨m, hm, h1, h2⟩ := ih.1 h;exact ⟨m + 1, by simpa using hm, by rw [h1]; congr 2; omega, by simpa using h2⟩
  . rintro ⟨m, hm, h1, h2⟩
    cases m with
    | zero =>
     rw [if_pos (by simpa using h2)]
     exact List.mem_cons.2 (.inl (by simpa using h1))
    | succ m =>
     have : v ∈ bgF lp op b (i + 1) := ih.2 ⟨m, by simpa using hm, by rw [h1]; congr 2; omega, by simpa using h2⟩
     split
     . exact List.mem_cons_of_mem _ this
     . exact this
theorem a9Q {g : G} {p q : Int × Int} : (gUs g p).any (fun u => u.1 == q) = true ↔ ∃ u ∈ gUs g p, u.1 = q := by
 rw [List.any_eq_true];constructor
 . rintro ⟨u, h1, h2⟩; exact ⟨u, h1, by simpa using h2⟩
 rintro ⟨u, h1, h2⟩; exact ⟨u, h1, by simpa using h2⟩
theorem b5A {l : List Nd} {out : Int} (hok : gOk (l, out) = true) {p : Int × Int} (hp : p ∈ a0i l 0) {u : (Int × Int) × Int} (hu : u ∈ gUs (l, out) p) :
 u.1 ∈ a0i l 0 ∧ b6A p u = ((p, u.1), (decide (p.2 < 0) && decide (0 <= u.1.2), 0)) ∧ a5U (l, out) p u.1 = some (decide (p.2 < 0) && decide (0 <= u.1.2), 0) := by
 have h3 : a5U (l, out) p u.1 = some (decide (p.2 < 0) && decide (0 <= u.1.2), 0) := by
  unfold a5U;rw [if_pos (a9Q.2 ⟨u, hu, rfl⟩)]
 refine ⟨?_, ?_, h3⟩
 . rcases a3S hok hp hu with ⟨k, m, hm, rfl, e, hkm, _⟩ | ⟨k, n, m, hn, hm, rfl, hl, e, hkn, h11⟩ | ⟨k, j, m, hk, hm, rfl, e, hjm, _⟩
   . rw [e]; exact a0F.2 ⟨m, hm, by simp, .inl rfl⟩
   . rw [e]; exact a0F.2 ⟨n, hn, by simp, .inr ⟨by simp, by simpa using hm⟩⟩
   rw [e]; exact a0F.2 ⟨k, hk, by simp, .inr ⟨by simp, by simpa using hm⟩⟩
 unfold b6A
 rcases a3S hok hp hu with ⟨k, m, hm, rfl, e, hkm, _⟩ | ⟨k, n, m, hn, hm, rfl, hl, e, hkn, h11⟩ | ⟨k, j, m, hk, hm, rfl, e, hjm, _⟩
 . rw [e]; simp
 . rw [e]
   have : ((m : Int) != -1) = true := by simp
   simp
 rw [e];have h1 : ((j : Int) == -1) = false := by simp
 have h2 : ¬ ((j : Int) < 0) := by omega
 simp only [h1, decide_eq_false h2, Bool.false_and]
theorem b6I {l : List Nd} {out : Int} (h : a1Q (l, out) = true) : ∃ (n : Nat) (hn : n < l.length) (i0 : Int), gOk (l, out) = true ∧ a05 l = (n : Int) ∧ lpN (l, out) = l[n] ∧ l[n].op = 9 ∧ 1 <= l[n].body.length ∧ l[n].body.length <= 32 ∧
 (i0 ∈ l[n].ins) ∧ inP (l, out) = (i0, -1) ∧ (lpN (l, out)).ins.head! = i0 ∧ a3R (l, out) = ((n : Int), ((l[n].body.length - 1 : Nat) : Int)) ∧ 0 <= i0 ∧ i0 < (n : Int) := by
 obtain ⟨n, hn, i0, ir, h1, h2, h3, h4, h5, h6, h7⟩ := b2p h
 have hok : gOk (l, out) = true := by
  unfold a1Q at h;rw [Bool.and_eq_true] at h;exact h.1
 have h1 : a05 l = (n : Int) := h1;have h4 : l[n].ins = i0 :: ir := h4;have h3 : lpN (l, out) = l[n] := h3;have h5 : 1 <= l[n].body.length := h5;have hi := (a4i (a1X hok hn).1).2.2.2 i0 (by rw [h4]; simp)
 refine ⟨n, hn, i0, hok, h1, h3, h7, h5, h6, by rw [h4]; simp, ?_, ?_, ?_, by omega, by omega⟩
 . unfold inP; rw [h3, h4]; rfl
 . rw [h3, h4]; rfl
 unfold a3R;simp only;rw [h3, h1]
 congr 1
 omega
theorem a6u {n i0 : Int} {b : List Nd} {x : Ar} : x ∈ a4D n i0 b ↔ x = (((n, (b.length : Int) - 1), (n, -1)), (true, 0)) ∨ (∃ v ∈ bgF n 10 b 0, x = (((i0, -1), v), (true, 0)) ∨ x = (((n, (b.length : Int) - 1), v), (false, 1))) ∨ (∃ v ∈ bgF n 11 b 0, x = (((n, (b.length : Int) - 1), v), (false, 1))) := by
 unfold a4D;rw [List.mem_cons, List.mem_append, List.mem_flatMap, List.mem_map];constructor
 . rintro (h | ⟨v, hv, h⟩ | ⟨v, hv, h⟩)
   . exact .inl h
   . refine .inr (.inl ⟨v, hv, ?_⟩)
     unfold a8t at h;simpa using h
   exact .inr (.inr ⟨v, hv, h.symm⟩)
 rintro (h | ⟨v, hv, h⟩ | ⟨v, hv, h⟩)
 . exact .inl h
 . refine .inr (.inl ⟨v, hv, ?_⟩)
   unfold a8t;simpa using h
 exact .inr (.inr ⟨v, hv, h.symm⟩)
theorem op9 {l : List Nd} {out : Int} (hok : gOk (l, out) = true) {n : Nat} (hn : n < l.length) (h9 : l[n].op = 9) {q : Int × Int} (hq : q ∈ a0i l 0) : a6t (l, out) q = 9 ↔ q = ((n : Int), -1) := by
 obtain ⟨k, hk, h1, h2⟩ := a0F.1 hq;rw [Nat.zero_add] at h1;obtain ⟨q1, q2⟩ := q;dsimp only at h1 h2;subst h1;have hln := a2B hn (a1d hok).2.2.2.2.2 h9;constructor
 . intro e
   rcases h2 with rfl | ⟨h2, h3⟩
   . rw [a7e hok hk] at e
     have := a2B hk (a1d hok).2.2.2.2.2 e;rw [<- this, hln]
   obtain ⟨j, rfl⟩ : ∃ j : Nat, q2 = (j : Int) := ⟨q2.toNat, by omega⟩
   have hj : j < l[k].body.length := by omega
   rw [a97 hok hk hj] at e;exact absurd e (a98 hok hk hj).2.2.1
 intro e;rw [e, a7e hok hn, h9]
theorem a6v {l : List Nd} {out : Int} (hok : gOk (l, out) = true) {n : Nat} (hn : n < l.length) (hln : a05 l = (n : Int)) {op : Int} (hop : op = 10 ∨ op = 11) {q : Int × Int} (hq : q ∈ a0i l 0) : a6t (l, out) q = op ↔ q ∈ bgF (n : Int) op l[n].body 0 := by
 rw [a5C];constructor
 . intro e
   obtain ⟨k, hk, h1, h2⟩ := a0F.1 hq;rw [Nat.zero_add] at h1;obtain ⟨q1, q2⟩ := q;dsimp only at h1 h2;subst h1
   rcases h2 with rfl | ⟨h2, h3⟩
   . rw [a7e hok hk] at e
     have := b6H hok hk
     rcases hop with h | h <;> omega
   obtain ⟨j, rfl⟩ : ∃ j : Nat, q2 = (j : Int) := ⟨q2.toNat, by omega⟩
   have hj : j < l[k].body.length := by omega
   have hkn : k = n := by have := (a98 hok hk hj).1; omega
   subst hkn;rw [a97 hok hk hj] at e;exact ⟨j, hj, by simp, e⟩
 rintro ⟨m, hm, rfl, e⟩;rw [Nat.zero_add, a97 hok hn hm, e]
theorem a7f {l : List Nd} {n m : Nat} (hn : n < l.length) (hm : m < l[n].body.length) : ((n : Int), (m : Int)) ∈ a0i l 0 := a0F.2 ⟨n, hn, by simp, .inr ⟨by simp, by simpa using hm⟩⟩
theorem a99 {l : List Nd} {out : Int} (hok : gOk (l, out) = true) {p q : Int × Int} (hp : p ∈ a0i l 0) {n m : Nat} (hn : n < l.length) (hm : m < l[n].body.length) (hq : q = ((n : Int), (m : Int))) (h : l[n].body[m].op = 10 ∨ (l[n].body[m].op = 11 ∧ 0 <= p.2)) : ¬ (gUs (l, out) p).any (fun u => u.1 == q) = true := by
 rw [a9Q];rintro ⟨u, hu, he⟩;rw [hq] at he
 rcases a3S hok hp hu with ⟨k, m', hm', rfl, e, hkm, _⟩ | ⟨k, n', m', hn', hm', rfl, hl, e, hkn, h11⟩ | ⟨k, j, m', hk, hm', rfl, e, hjm, hin⟩
 . rw [e] at he; injection he with a b; omega
 . rw [e] at he
   injection he with a b
   have a : n' = n := by omega
   have b : m' = m := by omega
   subst a b
   rcases h with h | ⟨h, h2⟩
   . omega
   simp at h2
 rw [e] at he;injection he with a b
 have a : k = n := by omega
 have b : m' = m := by omega
 subst a b;have := (a98 hok hk hm').2.2.2 (by rcases h with h | ⟨h, _⟩ <;> simp [h])
 rw [this] at hin; simp at hin
theorem b6J {l : List Nd} {n : Nat} (hn : n < l.length) : ((n : Int), (-1 : Int)) ∈ a0i l 0 := a0F.2 ⟨n, hn, by simp, .inl rfl⟩
theorem b0U {l : List Nd} {out : Int} (hok : gOk (l, out) = true) {p : Int × Int} (hp : p ∈ a0i l 0) {n : Nat} (hp2 : 0 <= p.2) : ¬ (gUs (l, out) p).any (fun u => u.1 == ((n : Int), (-1 : Int))) = true := by
 rw [a9Q];rintro ⟨u, hu, he⟩
 rcases a3S hok hp hu with ⟨k, m', hm', rfl, e, hkm, _⟩ | ⟨k, n', m', hn', hm', rfl, hl, e, hkn, h11⟩ | ⟨k, j, m', hk, hm', rfl, e, hjm, hin⟩
 . simp at hp2
 . rw [e] at he; injection he with a b; omega
 rw [e] at he; injection he with a b; omega
theorem a5D (g : G) (x : Ar) : x ∈ a4L g ↔ x ∈ a1J g := by
 obtain ⟨l, out⟩ := g;rw [a1A]
 cases hok : gOk (l, out) with
 | false =>
  have h1 : gPl (l, out) = [] := by unfold gPl; rw [if_neg (by rw [hok]; simp)]
  have h2 : a9O (l, out) = [] := by unfold a9O a1Q; rw [hok]; rfl
  unfold a4L;rw [h1, h2];simp
 | true =>
 have hpl : gPl (l, out) = a0i l 0 := by unfold gPl; rw [if_pos hok]; rfl
 unfold a4L;rw [List.mem_append, hpl, List.mem_flatMap];obtain ⟨⟨p, q⟩, w⟩ := x;simp only;constructor
 . rintro (⟨p', hp', hx⟩ | hx)
   . unfold a7b at hx
     obtain ⟨u, hu, he⟩ := List.mem_map.1 hx;obtain ⟨h1, h2, h3⟩ := b5A hok hp' hu;rw [h2] at he;injection he with a b
     injection a with a c
     subst a b c;exact ⟨hp', h1, h3⟩
   unfold a9O at hx
   by_cases hB : a1Q (l, out) = true
   . rw [if_pos hB] at hx
     obtain ⟨n, hn, i0, -, hln, hN, h9, hb1, hb2, hi, hin, hhd, hla, hi0, hin2⟩ := b6I hB;rw [hN] at hhd;rw [hN, hhd, hln] at hx;have hlm : l[n].body.length - 1 < l[n].body.length := by omega
     have hlast : ((n : Int), (l[n].body.length : Int) - 1) = a3R (l, out) := by rw [hla]; congr 1; omega
     have hlpl : a3R (l, out) ∈ a0i l 0 := by rw [hla]; exact a7f hn hlm
     have hl2 : 0 <= (a3R (l, out)).2 := by rw [hla]; simp
     have hpi : ((i0, -1) : Int × Int) ∈ a0i l 0 := by
      obtain ⟨k, rfl⟩ : ∃ k : Nat, i0 = (k : Int) := ⟨i0.toNat, by omega⟩
      exact b6J (by omega)
     have hne : a3R (l, out) ≠ inP (l, out) := by rw [hla, hin]; intro e; injection e with a b; omega
     have hl0 : ¬ a05 l < 0 := by omega
     rw [a6u, hlast] at hx
     rcases hx with hx | ⟨v, hv, hx | hx⟩ | ⟨v, hv, hx⟩
     . injection hx with a b
       injection a with a c
       subst a b c;refine ⟨hlpl, b6J hn, ?_⟩;have e9 := (op9 hok hn h9 (b6J hn)).2 rfl;unfold a5U;rw [if_neg (b0U hok hlpl hl2), if_neg hl0, if_neg (fun e => hne e.1), if_neg (by rw [e9]; omega), if_pos ⟨rfl, e9⟩]
     . injection hx with a b
       injection a with a c
       subst a b c;have hvm := a5C.1 hv;obtain ⟨m, hm, e, h10⟩ := hvm;rw [Nat.zero_add] at e;have hvp : q ∈ a0i l 0 := by rw [e]; exact a7f hn hm
       refine ⟨hpi, hvp, ?_⟩;unfold a5U;rw [if_neg (a99 hok hpi hn hm e (.inl h10)), if_neg hl0, if_pos ⟨hin.symm, (a6v hok hn hln (.inl rfl) hvp).2 hv⟩]
     . injection hx with a b
       injection a with a c
       subst a b c;have hvm := a5C.1 hv;obtain ⟨m, hm, e, h10⟩ := hvm;rw [Nat.zero_add] at e;have hvp : q ∈ a0i l 0 := by rw [e]; exact a7f hn hm
       refine ⟨hlpl, hvp, ?_⟩;unfold a5U;rw [if_neg (a99 hok hlpl hn hm e (.inl h10)), if_neg hl0, if_neg (fun e => hne e.1), if_pos ⟨rfl, .inl ((a6v hok hn hln (.inl rfl) hvp).2 hv)⟩]
     injection hx with a b
     injection a with a c
     subst a b c;have hvm := a5C.1 hv;obtain ⟨m, hm, e, h10⟩ := hvm;rw [Nat.zero_add] at e;have hvp : q ∈ a0i l 0 := by rw [e]; exact a7f hn hm
     refine ⟨hlpl, hvp, ?_⟩;unfold a5U;rw [if_neg (a99 hok hlpl hn hm e (.inr ⟨h10, hl2⟩)), if_neg hl0, if_neg (fun e => hne e.1), if_pos ⟨rfl, .inr ((a6v hok hn hln (.inr rfl) hvp).2 hv)⟩]
   rw [if_neg hB] at hx; simp at hx
 rintro ⟨hp, hq, hf⟩;unfold a5U at hf
 by_cases hu : (gUs (l, out) p).any (fun u => u.1 == q) = true
 . rw [if_pos hu] at hf
   injection hf with hf
   obtain ⟨u, hu2, rfl⟩ := a9Q.1 hu;obtain ⟨h1, h2, h3⟩ := b5A hok hp hu2;refine .inl ⟨p, hp, ?_⟩;unfold a7b;exact List.mem_map.2 ⟨u, hu2, by rw [h2, hf]⟩
 rw [if_neg hu] at hf
 by_cases hl0 : a05 l < 0
 . rw [if_pos hl0] at hf; cases hf
 rw [if_neg hl0] at hf;have hB : a1Q (l, out) = true := by unfold a1Q; rw [hok]; simp; omega
 refine .inr ?_;unfold a9O;rw [if_pos hB];obtain ⟨n, hn, i0, -, hln, hN, h9, hb1, hb2, hi, hin, hhd, hla, hi0, hin2⟩ := b6I hB;rw [hN] at hhd;rw [hN, hhd, hln];have hlast : ((n : Int), (l[n].body.length : Int) - 1) = a3R (l, out) := by rw [hla]; congr 1; omega
 rw [a6u, hlast]
 by_cases c1 : p = inP (l, out) ∧ a6t (l, out) q = 10
 . rw [if_pos c1] at hf
   injection hf with hf
   exact .inr (.inl ⟨q, (a6v hok hn hln (.inl rfl) hq).1 c1.2, .inl (by rw [c1.1, hin, hf])⟩)
 rw [if_neg c1] at hf
 by_cases c2 : p = a3R (l, out) ∧ (a6t (l, out) q = 10 ∨ a6t (l, out) q = 11)
 . rw [if_pos c2] at hf
   injection hf with hf
   rcases c2.2 with o | o
   . exact .inr (.inl ⟨q, (a6v hok hn hln (.inl rfl) hq).1 o, .inr (by rw [c2.1, hf])⟩)
   exact .inr (.inr ⟨q, (a6v hok hn hln (.inr rfl) hq).1 o, by rw [c2.1, hf]⟩)
 rw [if_neg c2] at hf
 by_cases c3 : p = a3R (l, out) ∧ a6t (l, out) q = 9
 . rw [if_pos c3] at hf
   injection hf with hf
   exact .inl (by rw [c3.1, (op9 hok hn h9 hq).1 c3.2, hf])
 rw [if_neg c3] at hf; cases hf
theorem b2A {g : G} : ∀ a ∈ a4L g, ∀ b ∈ a4L g, a.1 = b.1 -> a = b := by
 intro a ha b hb e;have h1 := (a1A.1 ((a5D g a).1 ha)).2.2;have h2 := (a1A.1 ((a5D g b).1 hb)).2.2;rw [e, h2] at h1;injection h1 with h1
 exact Prod.ext e h1.symm
theorem b6K {g : G} {s : List Ar} (hp : s.Perm (a4L g)) (hs : b6g s) : dd s = a1J g := dd_is hp hs b2A (a8d g) (a5D g)
theorem b2B {g : G} (h : (gPl g).length <= 20) : (a4L g).length <= 5000 := by
 have h1 : ((gPl g).flatMap (a7b g)).length <= 2000 := by
  have e : ((gPl g).flatMap (a7b g)).length = tot (fun p => (gUs g p).length) (gPl g) := by
   rw [List.length_flatMap];unfold tot
   congr 1
   refine List.map_congr_left fun p _ => ?_
   unfold a7b;simp
  rw [e, b2z];have := b2r (fun p => a2a ((gNd g p).getD default)) 100 (gPl g) (fun p _ => b6G)
  omega
 have h2 : (a9O g).length <= 200 := by
  unfold a9O
  by_cases hB : a1Q g = true
  . rw [if_pos hB]
    obtain ⟨n, hn, i0, ir, e1, e2, e3, e4, e5, e6, e7⟩ := b2p hB;rw [e3];unfold a4D;have a1 := a5l (a05 g.1) 10 (g.1[n]).body 0;have a2 := a5l (a05 g.1) 11 (g.1[n]).body 0;rw [List.length_cons, List.length_append, a4Q, List.length_map];omega
  rw [if_neg hB]; simp
 unfold a4L;rw [List.length_append];omega
theorem a8e {g : G} (h : (gPl g).length <= 20) : (a1J g).length <= 400 := by
 have : ∀ l : List (Int × Int), (l.flatMap (a7d g)).length <= l.length * 20 := by
  intro l
  induction l with
  | nil => simp
  | cons p l ih =>
  have : (a7d g p).length <= 20 := Nat.le_trans (List.length_filterMap_le _ _) h;rw [List.flatMap_cons, List.length_append, List.length_cons];omega
 have := this (gPl g);unfold a1J;omega
end Go.Ox.Pl
namespace Go.Proofs.YtdkejfjcchlnpaaGreat
open Go.RowKit Go.Ox Go.Ox.Gr
theorem b4z (d : Nat) (v : Value) (g : G) (w : World) (hv : a00 d w v g.1) (hl : (gPl g).length <= 20) :
 Calls Tryz.prog 136 #[gAg v g.2] w fun e w' => ∃ u, e = .returned u ∧ OE 144 w.heap.size w' u (Pl.a1J g) ∧ Ext w w' := by
 refine (b4x d v g w hv (Pl.b2B hl)).mono ?_;rintro e w' ⟨u, s, rfl, hp, hs, ho, he⟩;exact ⟨u, rfl, by rw [<- Pl.b6K hp hs]; exact ho, he⟩
end Go.Proofs.YtdkejfjcchlnpaaGreat
namespace Go.Ox.Pl
abbrev P2 := Int × Int
abbrev Wy := Bool × Int
def thn (x a : Wy) : Wy := if a.1 = true then a else (x.1, x.2 + a.2)
def less (x y : Wy) : Bool := decide (x.2 < y.2) || (decide (x.2 = y.2) && (x.1 && !y.1))
def le (x y : Wy) : Prop := less y x = false
theorem le_iff {x y : Wy} : le x y ↔ x.2 < y.2 ∨ (x.2 = y.2 ∧ (y.1 = true -> x.1 = true)) := by
 obtain ⟨x1, x2⟩ := x;obtain ⟨y1, y2⟩ := y;unfold le less;simp only [Bool.or_eq_false_iff, decide_eq_false_iff_not, Bool.and_eq_false_iff]
 cases x1 <;> cases y1 <;> simp <;> omega
theorem a3T {x y : Wy} : less x y = true ↔ x.2 < y.2 ∨ (x.2 = y.2 ∧ x.1 = true ∧ y.1 = false) := by
 obtain ⟨x1, x2⟩ := x;obtain ⟨y1, y2⟩ := y;unfold less
 cases x1 <;> cases y1 <;> simp
theorem le_refl (x : Wy) : le x x := le_iff.2 (.inr ⟨rfl, id⟩)
theorem le_trans {x y z : Wy} (h : le x y) (k : le y z) : le x z := by
 rw [le_iff] at *
 rcases h with h | ⟨h, h'⟩ <;> rcases k with k | ⟨k, k'⟩
 . exact .inl (by omega)
 . exact .inl (by omega)
 . exact .inl (by omega)
 exact .inr ⟨by omega, fun e => h' (k' e)⟩
theorem b6L {x y : Wy} (h : le x y) (k : le y x) : x = y := by
 rw [le_iff] at *;obtain ⟨x1, x2⟩ := x;obtain ⟨y1, y2⟩ := y;simp only at *;have : x2 = y2 := by omega
 subst this;have h1 : y1 = true -> x1 = true := by rcases h with h | h; omega; exact h.2
 have h2 : x1 = true -> y1 = true := by rcases k with h | h; omega; exact h.2
 cases x1 <;> cases y1 <;> simp at *
theorem b6M {x y : Wy} (h : less x y = true) : le x y := by
 rw [a3T] at h;rw [le_iff]
 rcases h with h | ⟨h, h1, h2⟩
 . exact .inl h
 exact .inr ⟨h, fun _ => h1⟩
theorem a4T {x y : Wy} (h : le x y) (a : Wy) : le (thn x a) (thn y a) := by
 unfold thn
 split
 . exact le_refl _
 rw [le_iff] at *
 rcases h with h | ⟨h, h'⟩
 . exact .inl (by simp only; omega)
 exact .inr ⟨by simp only; omega, h'⟩
def Wk (cs : List Ar) (p : P2) : P2 -> List Ar -> P2 -> Prop
 | u, [], v => u = v
 | u, a :: r, v => a ∈ cs ∧ a.1.1 = u ∧ a.1.2 ≠ p ∧ Wk cs p a.1.2 r v
def val (x : Wy) (ws : List Ar) : Wy := ws.foldl (fun x a => thn x a.2) x
theorem a1R (x : Wy) (r s : List Ar) : val x (r ++ s) = val (val x r) s := List.foldl_append
theorem a9R : ∀ (ws : List Ar) {x y : Wy}, le x y -> le (val x ws) (val y ws)
 | [], _, _, h => h
 | a :: r, _, _, h => a9R r (a4T h a.2)
theorem a6w {cs : List Ar} {p v : P2} : ∀ {r s : List Ar} {u : P2}, Wk cs p u (r ++ s) v ↔ ∃ m, Wk cs p u r m ∧ Wk cs p m s v
 | [], s, u => by
  simp only [List.nil_append];constructor
  . intro h; exact ⟨u, rfl, h⟩
  . rintro ⟨m, rfl, h⟩; exact h
 | a :: r, s, u => by
  simp only [List.cons_append, Wk];rw [a6w (r := r) (s := s)];constructor
  . rintro ⟨h1, h2, h3, m, h4, h5⟩; exact ⟨m, ⟨h1, h2, h3, h4⟩, h5⟩
  . rintro ⟨m, ⟨h1, h2, h3, h4⟩, h5⟩; exact ⟨h1, h2, h3, m, h4, h5⟩
theorem a9S {cs : List Ar} {p c v : P2} : ∀ {ws : List Ar} {u : P2} {A B : List P2}, Wk cs p u ws v -> ws.map (·.1.2) = A ++ c :: B -> ∃ r s, ws = r ++ s ∧ r.map (·.1.2) = A ++ [c] ∧ s.map (·.1.2) = B ∧ Wk cs p u r c ∧ Wk cs p c s v
 | [], _, A, B, _, h => by simp at h
 | a :: ws, u, [], B, hw, h => by
  simp only [List.map_cons, List.nil_append, List.cons.injEq] at h;obtain ⟨h1, h2⟩ := h;obtain ⟨k1, k2, k3, k4⟩ := hw;exact ⟨[a], ws, rfl, by simp [h1], h2, ⟨k1, k2, k3, h1⟩, by rw [<- h1]; exact k4⟩
 | a :: ws, u, x :: A, B, hw, h => by
  simp only [List.map_cons, List.cons_append, List.cons.injEq] at h;obtain ⟨h1, h2⟩ := h;obtain ⟨k1, k2, k3, k4⟩ := hw;obtain ⟨r, s, e1, e2, e3, e4, e5⟩ := a9S k4 h2;exact ⟨a :: r, s, by rw [e1]; rfl, by simp [h1, e2], e3, ⟨k1, k2, k3, e4⟩, e5⟩
theorem b2C {x y : Wy} : ∀ {ws : List Ar}, (∃ a ∈ ws, a.2.1 = true) -> val x ws = val y ws
 | [], h => by simp at h
 | a :: r, h => by
  by_cases q : a.2.1 = true
  . unfold val
    rw [List.foldl_cons, List.foldl_cons, thn, thn, if_pos q, if_pos q]
  . obtain ⟨b, hb, hb2⟩ := h
    rcases List.mem_cons.1 hb with e | e
    . subst e; exact absurd hb2 q
    . exact b2C (ws := r) ⟨b, e, hb2⟩
theorem val_add {cs : List Ar} (h0 : ∀ a ∈ cs, 0 <= a.2.2) : ∀ {ws : List Ar} (x : Wy), (∀ a ∈ ws, a ∈ cs) -> (∀ a ∈ ws, a.2.1 = false) -> (val x ws).1 = x.1 ∧ x.2 <= (val x ws).2
 | [], x, _, _ => ⟨rfl, Int.le_refl _⟩
 | a :: r, x, h1, h2 => by
  have hf := h2 a (by simp)
  have ih := val_add h0 (ws := r) (thn x a.2) (fun b hb => h1 b (by simp [hb])) (fun b hb => h2 b (by simp [hb]))
  have ht : thn x a.2 = (x.1, x.2 + a.2.2) := by unfold thn; rw [if_neg (by rw [hf]; simp)]
  have ha := h0 a (h1 a (by simp))
  rw [ht] at ih;have e : val x (a :: r) = val (x.1, x.2 + a.2.2) r := by rw [<- ht]; rfl
  rw [e];exact ⟨ih.1, by have := ih.2; simp only at this; omega⟩
theorem b6N {cs : List Ar} {p v : P2} : ∀ {ws : List Ar} {u : P2}, Wk cs p u ws v -> ∀ a ∈ ws, a ∈ cs
 | [], _, _, _, h => by simp at h
 | a :: r, u, hw, b, hb => by
  rcases List.mem_cons.1 hb with e | e
  . subst e; exact hw.1
  . exact b6N hw.2.2.2 b e
theorem cnt2 : ∀ (pl vs : List P2), (∀ v ∈ vs, v ∈ pl) -> (∀ c, vs.count c <= 2) -> vs.length <= 2 * pl.length
 | [], vs, h, _ => by
  cases vs with
  | nil => simp
  | cons v _ => have := h v (by simp); simp at this
 | c :: pl, vs, h, h2 => by
  have ih := cnt2 pl (vs.filter (fun v => !(v == c))) (fun v hv => by
   obtain ⟨a, b⟩ := List.mem_filter.1 hv
   rcases List.mem_cons.1 (h v a) with e | e
   . subst e; simp at b
   . exact e) (fun d => Nat.le_trans (List.Sublist.count_le d List.filter_sublist) (h2 d))
  have e : vs.length = vs.count c + (vs.filter (fun v => !(v == c))).length := by
   rw [List.count_eq_length_filter]
   have : ∀ l : List P2, l.length = (l.filter (fun v => v == c)).length + (l.filter (fun v => !(v == c))).length := by
    intro l
    induction l with
    | nil => rfl
    | cons x l ih =>
     by_cases q : (x == c) = true
     . rw [List.filter_cons_of_pos (by simpa using q), List.filter_cons_of_neg (by simpa using q)]
       simp only [List.length_cons]; omega
     . rw [List.filter_cons_of_neg (by simpa using q), List.filter_cons_of_pos (by simpa using q)]
       simp only [List.length_cons]; omega
   exact this vs
  have := h2 c;rw [List.length_cons];omega
theorem three {c : P2} {vs : List P2} (h : 3 <= vs.count c) : ∃ A B C D, vs = A ++ c :: (B ++ c :: (C ++ c :: D)) := by
 have h1 : c ∈ vs := List.count_pos_iff.1 (by omega)
 obtain ⟨A, r1, rfl, hA⟩ := List.eq_append_cons_of_mem h1;have c1 : (A ++ c :: r1).count c = r1.count c + 1 := by rw [List.count_append, List.count_eq_zero.2 hA, List.count_cons_self]; omega
 have h2 : c ∈ r1 := List.count_pos_iff.1 (by omega)
 obtain ⟨B, r2, rfl, hB⟩ := List.eq_append_cons_of_mem h2;have c2 : (B ++ c :: r2).count c = r2.count c + 1 := by rw [List.count_append, List.count_eq_zero.2 hB, List.count_cons_self]; omega
 have h3 : c ∈ r2 := List.count_pos_iff.1 (by omega)
 obtain ⟨C, D, rfl, _⟩ := List.eq_append_cons_of_mem h3;exact ⟨A, B, C, D, rfl⟩
structure AsOk (cs : List Ar) (pl : List P2) : Prop where
 fr : ∀ a ∈ cs, a.1.1 ∈ pl
 tt : ∀ a ∈ cs, a.1.2 ∈ pl
 lo : ∀ a ∈ cs, 0 <= a.2.2
 hi : ∀ a ∈ cs, a.2.2 <= 1
 st : ∀ a ∈ cs, a.2.1 = true -> a.2.2 = 0
theorem short {cs : List Ar} {pl : List P2} (H : AsOk cs pl) {p : P2} {q : P2} : ∀ (N : Nat) (ws : List Ar), ws.length <= N -> Wk cs p p ws q -> ∃ ws', Wk cs p p ws' q ∧ le (val (false, 0) ws') (val (false, 0) ws) ∧ ws'.length <= 2 * pl.length
 | 0, ws, hN, hw => ⟨ws, hw, le_refl _, by omega⟩
 | N + 1, ws, hN, hw => by
  by_cases hs : ws.length <= 2 * pl.length
  . exact ⟨ws, hw, le_refl _, hs⟩
  . have hc : ∃ c, 3 <= (ws.map (·.1.2)).count c := Classical.byContradiction fun hno => by
     have := cnt2 pl (ws.map (·.1.2)) (fun v hv => by
      obtain ⟨a, ha, rfl⟩ := List.mem_map.1 hv
      exact H.tt a (b6N hw a ha)) (fun c => by
      by_cases q : (ws.map (·.1.2)).count c <= 2
      . exact q
      . exact absurd ⟨c, by omega⟩ hno)
     rw [List.length_map] at this;omega
    obtain ⟨c, hc⟩ := hc;obtain ⟨A, B, C, D, hvs⟩ := three hc;obtain ⟨r1, s1, rfl, e2, e3, k1, k2⟩ := a9S hw hvs;obtain ⟨r2, s2, rfl, f2, f3, k3, k4⟩ := a9S k2 e3;obtain ⟨r3, s3, rfl, g2, g3, k5, k6⟩ := a9S k4 f3;have hn2 : 1 <= r2.length := by have := congrArg List.length f2; simp at this; omega
    have hn3 : 1 <= r3.length := by have := congrArg List.length g2; simp at this; omega
    simp only [List.length_append] at hN
    by_cases hset : ∃ a ∈ r3 ++ s3, a.2.1 = true
    . obtain ⟨ws', j1, j2, j3⟩ := short H (q := q) N (r1 ++ (r3 ++ s3)) (by simp only [List.length_append]; omega) (a6w.2 ⟨c, k1, k4⟩)
      refine ⟨ws', j1, ?_, j3⟩
      have e : val (false, 0) (r1 ++ (r3 ++ s3)) = val (false, 0) (r1 ++ (r2 ++ (r3 ++ s3))) := by
       rw [a1R (false, 0) r1 (r3 ++ s3), a1R (false, 0) r1 (r2 ++ (r3 ++ s3)), a1R _ r2 (r3 ++ s3)];exact b2C hset
      rw [<- e]; exact j2
    . obtain ⟨ws', j1, j2, j3⟩ := short H (q := q) N (r1 ++ (r2 ++ s3)) (by simp only [List.length_append]; omega) (a6w.2 ⟨c, k1, a6w.2 ⟨c, k3, k6⟩⟩)
      refine ⟨ws', j1, le_trans j2 ?_, j3⟩;rw [a1R, a1R, a1R, a1R, a1R];refine a9R s3 ?_
      have := val_add H.lo (ws := r3) (val (val (false, 0) r1) r2) (b6N k5) (fun a ha => by
       cases q : a.2.1 with
       | false => rfl
       | true => exact absurd ⟨a, by simp [ha], q⟩ hset)
      rw [le_iff]
      by_cases q : (val (val (false, 0) r1) r2).2 < (val (val (val (false, 0) r1) r2) r3).2
      . exact .inl q
      . exact .inr ⟨by omega, fun e => by rw [<- this.1]; exact e⟩
abbrev Mp := P2 -> Option Wy
structure Least (cs : List Ar) (p : P2) (M : Mp) : Prop where
 self : M p = some (false, 0)
 walk : ∀ q w, M q = some w -> ∃ ws, Wk cs p p ws q ∧ val (false, 0) ws = w
 closed : ∀ a ∈ cs, ∀ x, M a.1.1 = some x -> a.1.2 ≠ p -> ∃ y, M a.1.2 = some y ∧ le y (thn x a.2)
theorem Least.le {cs : List Ar} {p : P2} {M : Mp} (h : Least cs p M) {q : P2} : ∀ {ws : List Ar} {u : P2} {x y : Wy}, Wk cs p u ws q -> M u = some y -> Pl.le y x -> ∃ z, M q = some z ∧ Pl.le z (val x ws)
 | [], u, x, y, hw, hu, hy => by
  have : u = q := hw;subst this;exact ⟨y, hu, hy⟩
 | a :: r, u, x, y, hw, hu, hy => by
  obtain ⟨h1, h2, h3, h4⟩ := hw;obtain ⟨z, hz, hzl⟩ := h.closed a h1 y (by rw [h2]; exact hu) h3
  have := h.le (x := thn x a.2) h4 hz (Pl.le_trans hzl (a4T hy a.2));exact this
theorem Least.b2D {cs : List Ar} {p : P2} {M : Mp} (h : Least cs p M) {q : P2} {ws : List Ar} (hw : Wk cs p p ws q) : ∃ z, M q = some z ∧ Pl.le z (val (false, 0) ws) := h.le hw h.self (le_refl _)
theorem Least.uniq {cs : List Ar} {p : P2} {M M' : Mp} (h : Least cs p M) (h' : Least cs p M') : M = M' := by
 have key : ∀ {M M' : Mp}, Least cs p M -> Least cs p M' -> ∀ q w, M q = some w -> M' q = some w := by
  intro M M' h h' q w hq;obtain ⟨ws, hw, hv⟩ := h.walk q w hq;obtain ⟨z, hz, hzl⟩ := h'.b2D hw;obtain ⟨ws', hw', hv'⟩ := h'.walk q z hz;obtain ⟨y, hy, hyl⟩ := h.b2D hw';rw [hq] at hy;injection hy with hy
  subst hy;rw [hv] at hzl;rw [hv'] at hyl;rw [hz, b6L hzl hyl]
 funext q
 cases hq : M q with
 | some w => exact (key h h' q w hq).symm
 | none =>
 cases hq' : M' q with
 | none => rfl
 | some w => rw [key h' h q w hq'] at hq; cases hq
def upd (M : Mp) (k : P2) (w : Wy) : Mp := fun q => if q = k then some w else M q
def b5B (pl : List P2) (M : Mp) : Nat := (pl.map fun q => if (M q).isSome = true then 1 else 0).sum
def rkO : Option Wy -> Nat
 | none => 100
 | some w => 2 * w.2.toNat + (if w.1 = true then 0 else 1)
def mu (pl : List P2) (M : Mp) : Nat := (pl.map fun q => rkO (M q)).sum
theorem b2E {f g : P2 -> Nat} : ∀ (l : List P2), (∀ q ∈ l, f q <= g q) -> (l.map f).sum <= (l.map g).sum
 | [], _ => Nat.le_refl _
 | x :: l, h => by
  have h1 := b2E l fun q hq => h q (by simp [hq])
  have h2 := h x (by simp)
  simp only [List.map_cons, List.sum_cons]; omega
theorem b2F {f g : P2 -> Nat} {v : P2} : ∀ (l : List P2), (∀ q ∈ l, f q <= g q) -> v ∈ l -> f v < g v -> (l.map f).sum < (l.map g).sum
 | [], _, hv, _ => by simp at hv
 | x :: l, h, hv, hlt => by
  have h1 := b2E l fun q hq => h q (by simp [hq])
  have h2 := h x (by simp)
  simp only [List.map_cons, List.sum_cons]
  rcases List.mem_cons.1 hv with e | e
  . subst e; omega
  . have := b2F l (fun q hq => h q (by simp [hq])) e hlt; omega
theorem a9T (pl : List P2) (M : Mp) : b5B pl M <= pl.length := by
 unfold b5B
 induction pl with
 | nil => simp
 | cons x l ih => simp only [List.map_cons, List.sum_cons, List.length_cons]; split <;> omega
theorem a8f (M : Mp) (k : P2) (w : Wy) : upd M k w k = some w := if_pos rfl
theorem a9U (M : Mp) {k q : P2} (w : Wy) (h : q ≠ k) : upd M k w q = M q := if_neg h
theorem b5C (M : Mp) (k : P2) (w : Wy) (pl : List P2) : b5B pl M <= b5B pl (upd M k w) := by
 refine b2E pl fun q _ => ?_
 by_cases e : q = k
 . subst e; rw [a8f]; simp; split <;> omega
 rw [a9U M w e]; exact Nat.le_refl _
theorem b6O {M : Mp} {k : P2} (w : Wy) (hn : M k = none) (pl : List P2) (h : k ∈ pl) : b5B pl M + 1 <= b5B pl (upd M k w) := by
 refine b2F pl (v := k) (fun q _ => ?_) h ?_
 . by_cases e : q = k
   . subst e; rw [a8f]; simp; split <;> omega
   rw [a9U M w e]; exact Nat.le_refl _
 rw [a8f, hn]; simp
structure Inv (cs : List Ar) (pl : List P2) (p : P2) (M : Mp) : Prop where
 self : M p = some (false, 0)
 walk : ∀ q w, M q = some w -> ∃ ws, Wk cs p p ws q ∧ val (false, 0) ws = w
 bnd : ∀ q w, M q = some w -> q ∈ pl ∧ 0 <= w.2 ∧ w.2 <= (b5B pl M : Int)
def M0 (p : P2) : Mp := fun q => if q = p then some (false, 0) else none
theorem b5D {cs : List Ar} {pl : List P2} {p : P2} (hp : p ∈ pl) : Inv cs pl p (M0 p) where
 self := if_pos rfl
 walk q w h := by
  unfold M0 at h
  by_cases e : q = p
  . rw [if_pos e] at h; injection h with h; exact ⟨[], e.symm, h⟩
  . rw [if_neg e] at h; cases h
 bnd q w h := by
  unfold M0 at h
  by_cases e : q = p
  . rw [if_pos e] at h; injection h with h; subst h; exact ⟨by rw [e]; exact hp, by simp, by simp⟩
  rw [if_neg e] at h; cases h
def better (M : Mp) (p v : P2) (w : Wy) : Prop := v ≠ p ∧ ((M v).isNone = true ∨ less w ((M v).getD (false, 0)) = true)
instance (M : Mp) (p v : P2) (w : Wy) : Decidable (better M p v w) := by unfold better; infer_instance
theorem Inv.step {cs : List Ar} {pl : List P2} (H : AsOk cs pl) (hn : pl.length <= 20) {p : P2} {M : Mp} (h : Inv cs pl p M) {a : Ar} (ha : a ∈ cs) {x : Wy} (hx : M a.1.1 = some x) (hb : better M p a.1.2 (thn x a.2)) :
 Inv cs pl p (upd M a.1.2 (thn x a.2)) ∧ mu pl (upd M a.1.2 (thn x a.2)) < mu pl M ∧ 0 <= (thn x a.2).2 ∧ (thn x a.2).2 <= 20 := by
 obtain ⟨ws, hw, hv⟩ := h.walk _ _ hx;obtain ⟨b1, b2, b3⟩ := h.bnd _ _ hx;have ht := H.tt a ha;have a0 := H.lo a ha;have a1 := H.hi a ha
 have n0 : 0 <= (thn x a.2).2 := by
  unfold thn
  split
  . exact a0
  simp only; omega
 have n1 : (thn x a.2).2 <= x.2 + 1 := by
  unfold thn
  split
  . omega
  simp only; omega
 have hc : (thn x a.2).2 <= (b5B pl (upd M a.1.2 (thn x a.2)) : Int) := by
  cases hm : M a.1.2 with
  | none =>
   have := b6O (thn x a.2) hm pl ht;omega
  | some y =>
  have hl : less (thn x a.2) y = true := by
   rcases hb.2 with q | q
   . rw [hm] at q; cases q
   rw [hm] at q; exact q
  have := h.bnd _ _ hm;have h2 := b5C M a.1.2 (thn x a.2) pl;rw [a3T] at hl;omega
 have hle := a9T pl (upd M a.1.2 (thn x a.2));have h20 : (thn x a.2).2 <= 20 := by omega
 refine ⟨⟨?_, ?_, ?_⟩, ?_, n0, h20⟩
 . unfold upd; rw [if_neg hb.1.symm]; exact h.self
 . intro q w hq
   unfold upd at hq
   by_cases e : q = a.1.2
   . rw [if_pos e] at hq
     injection hq with hq
     refine ⟨ws ++ [a], a6w.2 ⟨_, hw, ha, rfl, hb.1, e.symm⟩, ?_⟩;rw [a1R, hv, <- hq]; rfl
   rw [if_neg e] at hq;exact h.walk q w hq
 . intro q w hq
   have hup := b5C M a.1.2 (thn x a.2) pl;unfold upd at hq
   by_cases e : q = a.1.2
   . rw [if_pos e] at hq
     injection hq with hq
     subst hq;exact ⟨by rw [e]; exact ht, n0, hc⟩
   rw [if_neg e] at hq;have := h.bnd q w hq;exact ⟨this.1, this.2.1, by omega⟩
 refine b2F pl (v := a.1.2) (fun q _ => ?_) ht ?_
 all_goals unfold upd
 . by_cases e : q = a.1.2
   . rw [if_pos e, e]
     cases hm : M a.1.2 with
     | none => simp only [rkO]; split <;> omega
     | some y =>
     have hl : less (thn x a.2) y = true := by
      rcases hb.2 with q | q
      . rw [hm] at q; cases q
      rw [hm] at q; exact q
     have := h.bnd _ _ hm;rw [a3T] at hl;simp only [rkO]
     rcases hl with hl | ⟨hl, hl1, hl2⟩
     . split <;> split <;> omega
     rw [hl1, hl2]; simp; omega
   rw [if_neg e]; exact Nat.le_refl _
 rw [if_pos rfl]
 cases hm : M a.1.2 with
 | none => simp only [rkO]; split <;> omega
 | some y =>
 have hl : less (thn x a.2) y = true := by
  rcases hb.2 with q | q
  . rw [hm] at q; cases q
  rw [hm] at q; exact q
 have := h.bnd _ _ hm;rw [a3T] at hl;simp only [rkO]
 rcases hl with hl | ⟨hl, hl1, hl2⟩
 . split <;> split <;> omega
 rw [hl1, hl2]; simp; omega
theorem mu_le (pl : List P2) (M : Mp) {p : P2} {cs : List Ar} (h : Inv cs pl p M) (hn : pl.length <= 20) : mu pl M <= 2000 := by
 have h1 : ∀ q, rkO (M q) <= 100 := fun q => by
  cases hm : M q with
  | none => exact Nat.le_refl _
  | some y =>
  have := h.bnd _ _ hm;have := a9T pl M;simp only [rkO]; split <;> omega
 have h2 : ∀ l : List P2, (l.map fun q => rkO (M q)).sum <= l.length * 100 := by
  intro l
  induction l with
  | nil => simp
  | cons x l ih =>
  have := h1 x;simp only [List.map_cons, List.sum_cons, List.length_cons]; omega
 have := h2 pl;unfold mu;omega
theorem Inv.least {cs : List Ar} {pl : List P2} {p : P2} {M : Mp} (h : Inv cs pl p M) (hb : ∀ a ∈ cs, ∀ x, M a.1.1 = some x -> ¬ better M p a.1.2 (thn x a.2)) : Least cs p M where
 self := h.self
 walk := h.walk
 closed a ha x hx hne := by
  have := hb a ha x hx;unfold better at this
  cases hm : M a.1.2 with
  | none => exact absurd ⟨hne, .inl (by rw [hm]; rfl)⟩ this
  | some y =>
   refine ⟨y, rfl, ?_⟩
   show less _ _ = false
   cases q : less (thn x a.2) y with
   | false => rfl
   | true => exact absurd ⟨hne, .inr (by rw [hm]; exact q)⟩ this
def rx (p : P2) (M : Mp) (a : Ar) : Mp :=
 match M a.1.1 with
 | none => M
 | some x => if better M p a.1.2 (thn x a.2) then upd M a.1.2 (thn x a.2) else M
def pass (cs : List Ar) (p : P2) (M : Mp) : Mp := cs.foldl (rx p) M
def iter (cs : List Ar) (p : P2) : Nat -> Mp -> Mp
 | 0, M => M
 | k + 1, M => pass cs p (iter cs p k M)
def dn (M M' : Mp) : Prop := ∀ q y, M q = some y -> ∃ y', M' q = some y' ∧ le y' y
theorem b2G (M : Mp) : dn M M := fun q y h => ⟨y, h, le_refl y⟩
theorem a9V {A B C : Mp} (h : dn A B) (k : dn B C) : dn A C := fun q y hq => by
 obtain ⟨y1, h1, h2⟩ := h q y hq;obtain ⟨y2, h3, h4⟩ := k q y1 h1;exact ⟨y2, h3, le_trans h4 h2⟩
theorem rx_dn (p : P2) (M : Mp) (a : Ar) : dn M (rx p M a) := fun q y hq => by
 unfold rx
 cases hm : M a.1.1 with
 | none => exact ⟨y, hq, le_refl y⟩
 | some x =>
  simp only
  split
  . rename_i hb
    unfold upd
    by_cases e : q = a.1.2
    . rw [if_pos e]
      refine ⟨_, rfl, ?_⟩;rw [e] at hq
      rcases hb.2 with k | k
      . rw [hq] at k; cases k
      . rw [hq] at k; exact b6M k
    . rw [if_neg e]; exact ⟨y, hq, le_refl y⟩
  . exact ⟨y, hq, le_refl y⟩
theorem rx_at {p : P2} {M : Mp} {a : Ar} {x : Wy} (hx : M a.1.1 = some x) (hne : a.1.2 ≠ p) : ∃ y, rx p M a a.1.2 = some y ∧ le y (thn x a.2) := by
 unfold rx;rw [hx];simp only
 split
 . unfold upd; rw [if_pos rfl]; exact ⟨_, rfl, le_refl _⟩
 rename_i hb
 cases hm : M a.1.2 with
 | none => exact absurd ⟨hne, .inl (by rw [hm]; rfl)⟩ hb
 | some y =>
 refine ⟨y, rfl, ?_⟩
 show less _ _ = false
 cases q : less (thn x a.2) y with
 | false => rfl
 | true => exact absurd ⟨hne, .inr (by rw [hm]; exact q)⟩ hb
theorem b5E {cs : List Ar} {pl : List P2} (H : AsOk cs pl) (hn : pl.length <= 20) {p : P2} {M : Mp} (h : Inv cs pl p M) {a : Ar} (ha : a ∈ cs) : Inv cs pl p (rx p M a) := by
 unfold rx
 cases hm : M a.1.1 with
 | none => exact h
 | some x =>
 simp only
 split
 . rename_i hb; exact (h.step H hn ha hm hb).1
 exact h
theorem a7g (p : P2) : ∀ (l : List Ar) (M : Mp), dn M (l.foldl (rx p) M)
 | [], M => b2G M
 | a :: l, M => a9V (rx_dn p M a) (a7g p l _)
theorem a9W {cs : List Ar} {pl : List P2} (H : AsOk cs pl) (hn : pl.length <= 20) {p : P2} : ∀ (l : List Ar) (M : Mp), (∀ a ∈ l, a ∈ cs) -> Inv cs pl p M -> Inv cs pl p (l.foldl (rx p) M)
 | [], M, _, h => h
 | a :: l, M, hl, h => a9W H hn l _ (fun b hb => hl b (by simp [hb])) (b5E H hn h (hl a (by simp)))
theorem b6P {cs : List Ar} {p : P2} {M : Mp} {a : Ar} (ha : a ∈ cs) {x : Wy} (hx : M a.1.1 = some x) (hne : a.1.2 ≠ p) : ∃ y, pass cs p M a.1.2 = some y ∧ le y (thn x a.2) := by
 obtain ⟨l1, l2, rfl⟩ := List.append_of_mem ha;unfold pass;rw [List.foldl_append, List.foldl_cons];obtain ⟨x1, h1, h2⟩ := a7g p l1 M _ _ hx;obtain ⟨y, h3, h4⟩ := rx_at h1 hne;obtain ⟨y', h5, h6⟩ := a7g p l2 _ _ _ h3;exact ⟨y', h5, le_trans h6 (le_trans h4 (a4T h2 _))⟩
theorem b5F (cs : List Ar) (p : P2) : ∀ (k : Nat) (M : Mp), iter cs p (k + 1) M = iter cs p k (pass cs p M)
 | 0, M => rfl
 | k + 1, M => by
  show pass cs p (iter cs p (k + 1) M) = pass cs p (iter cs p k (pass cs p M));rw [b5F cs p k M]
theorem b2H (cs : List Ar) (p : P2) : ∀ (k : Nat) (M : Mp), dn M (iter cs p k M)
 | 0, M => b2G M
 | k + 1, M => a9V (b2H cs p k M) (a7g p cs _)
theorem a4U {cs : List Ar} {pl : List P2} (H : AsOk cs pl) (hn : pl.length <= 20) {p : P2} : ∀ (k : Nat) (M : Mp), Inv cs pl p M -> Inv cs pl p (iter cs p k M)
 | 0, M, h => h
 | k + 1, M, h => a9W H hn cs _ (fun a ha => ha) (a4U H hn k M h)
theorem a8g {cs : List Ar} {p q : P2} : ∀ (k : Nat) {ws : List Ar} {M : Mp} {u : P2} {x y : Wy}, ws.length <= k -> Wk cs p u ws q -> M u = some y -> le y x -> ∃ z, iter cs p k M q = some z ∧ le z (val x ws)
 | k, [], M, u, x, y, hl, hw, hu, hy => by
  have : u = q := hw;subst this;obtain ⟨z, h1, h2⟩ := b2H cs p k M _ _ hu;exact ⟨z, h1, le_trans h2 hy⟩
 | 0, a :: r, M, u, x, y, hl, hw, hu, hy => by simp at hl
 | k + 1, a :: r, M, u, x, y, hl, hw, hu, hy => by
  obtain ⟨h1, h2, h3, h4⟩ := hw;rw [b5F];obtain ⟨z, hz, hzl⟩ := b6P (M := M) h1 (x := y) (by rw [h2]; exact hu) h3
  have := a8g k (ws := r) (M := pass cs p M) (x := thn x a.2) (by simpa using hl) h4 hz (le_trans hzl (a4T hy a.2))
  exact this
theorem b0V {cs : List Ar} {pl : List P2} (H : AsOk cs pl) (hn : pl.length <= 20) {p : P2} (hp : p ∈ pl) : Least cs p (iter cs p (2 * pl.length + 1) (M0 p)) := by
 have hi := a4U H hn (2 * pl.length + 1) (M0 p) (b5D (cs := cs) hp);refine ⟨hi.self, hi.walk, fun a ha x hx hne => ?_⟩
 obtain ⟨ws, hw, hv⟩ := hi.walk _ _ hx;obtain ⟨ws', j1, j2, j3⟩ := short H _ (ws ++ [a]) (Nat.le_refl _) (a6w.2 ⟨_, hw, ha, rfl, hne, rfl⟩);obtain ⟨z, hz, hzl⟩ := a8g (M := M0 p) (2 * pl.length + 1) (x := (false, 0)) (y := (false, 0)) (by omega) j1 (if_pos rfl) (le_refl _)
 refine ⟨z, hz, le_trans hzl (le_trans j2 ?_)⟩;rw [a1R, hv];exact le_refl _
end Go.Ox.Pl
