/-
  PlGraph, packed: what the claim needs of them.
-/
import Derived.Test.YtdkejfjcchlnpaaGreatFn30
import Derived.Test.YtdkejfjcchlnpaaGreatFn31
set_option linter.unusedVariables false
namespace Go.Ox.Pl
open Go.Ox.Gr Go.Proofs.YtdkejfjcchlnpaaGreat
def a83 (g : G) (q : Int × Int) : Int := ((gNd g q).getD default).op
def inP (g : G) : Int × Int := ((lpN g).ins.head!, -1)
def a4p (g : G) : Int × Int := (a04 g.1, (lpN g).body.length - 1)
def a84 (g : G) (p q : Int × Int) : Option (Bool × Int) :=
 if (gUs g p).any (fun u => u.1 == q) = true then some (decide (p.2 < 0) && decide (0 ≤ q.2), 0)
 else if a04 g.1 < 0 then none
 else if p = inP g ∧ a83 g q = 10 then some (true, 0)
 else if p = a4p g ∧ (a83 g q = 10 ∨ a83 g q = 11) then some (false, 1)
 else if p = a4p g ∧ a83 g q = 9 then some (true, 0)
 else none
def b0s (g : G) (p : Int × Int) : List Ar := (gPl g).filterMap fun q => (a84 g p q).map fun w => ((p, q), w)
def a2X (g : G) : List Ar := (gPl g).flatMap (b0s g)
theorem a1f {g : G} {x : Ar} : x ∈ a2X g ↔ x.1.1 ∈ gPl g ∧ x.1.2 ∈ gPl g ∧ a84 g x.1.1 x.1.2 = some x.2 := by
 unfold a2X b0s;rw [List.mem_flatMap];constructor
 · rintro ⟨p, hp, hx⟩
   obtain ⟨q, hq, he⟩ := List.mem_filterMap.1 hx
   cases hf : a84 g p q with
   | none => rw [hf] at he; cases he
   | some w =>
   rw [hf] at he;simp only [Option.map_some, Option.some.injEq] at he;subst he;exact ⟨hp, hq, hf⟩
 rintro ⟨h1, h2, h3⟩;refine ⟨x.1.1, h1, List.mem_filterMap.2 ⟨x.1.2, h2, ?_⟩⟩;rw [h3]; rfl
theorem a5j (g : G) : (gPl g).Pairwise plt := by
 unfold gPl
 split
 · exact a2W _ _
 exact List.Pairwise.nil
theorem a1Y (g : G) (p : Int × Int) (f : Int × Int → Option (Bool × Int)) : ∀ (l : List (Int × Int)), l.Pairwise plt → (l.filterMap fun q => (f q).map fun w => (((p, q), w) : Ar)).Pairwise (fun a b => ltK a.1 b.1)
 | [], _ => List.Pairwise.nil
 | q :: l, h => by
  rw [List.pairwise_cons] at h;have ih := a1Y g p f l h.2;rw [List.filterMap_cons]
  cases hf : f q with
  | none => simpa [hf] using ih
  | some w =>
   simp only [Option.map_some];refine List.pairwise_cons.2 ⟨fun y hy => ?_, ih⟩
   obtain ⟨q', hq', he⟩ := List.mem_filterMap.1 hy
   cases hf' : f q' with
   | none => rw [hf'] at he; cases he
   | some w' =>
    rw [hf'] at he;simp only [Option.map_some, Option.some.injEq] at he;subst he;exact .inr ⟨rfl, h.1 q' hq'⟩
theorem a4q (g : G) (F : Int × Int → List Ar) (hF : ∀ p, (F p).Pairwise (fun a b => ltK a.1 b.1)) (hk : ∀ p, ∀ a ∈ F p, a.1.1 = p) : ∀ (l : List (Int × Int)), l.Pairwise plt → (l.flatMap F).Pairwise (fun a b => ltK a.1 b.1)
 | [], _ => List.Pairwise.nil
 | p :: l, h => by
  rw [List.pairwise_cons] at h;rw [List.flatMap_cons];refine List.pairwise_append.2 ⟨hF p, a4q g F hF hk l h.2, fun a ha b hb => .inl ?_⟩
  obtain ⟨p', hp', hb'⟩ := List.mem_flatMap.1 hb;rw [hk p a ha, hk p' b hb'];exact h.1 p' hp'
theorem a6G (g : G) : (a2X g).Pairwise (fun a b => ltK a.1 b.1) := by
 refine a4q g (b0s g) (fun p => a1Y g p _ _ (a5j g)) (fun p a ha => ?_) _ (a5j g)
 obtain ⟨q, hq, he⟩ := List.mem_filterMap.1 ha
 cases hf : a84 g p q with
 | none => rw [hf] at he; cases he
 | some w =>
 rw [hf] at he;simp only [Option.map_some, Option.some.injEq] at he;subst he; rfl
theorem b2c {name lp : Int} {x : (Int × Int) × Int} {b : List Nd} (h : x ∈ ouN name lp b) : ∃ (k : Nat) (hk : k < b.length), x.1 = (lp, (k : Int)) ∧ b[k].op = 11 ∧ name ∈ outs b := by
 have hm := b45 h;unfold ouN at h;obtain ⟨y, hy, he⟩ := List.mem_filterMap.1 h
 by_cases hn : y.1.op = 11 ∧ y.1.a = name
 · rw [if_pos hn] at he
   injection he with he
   subst he;obtain ⟨h1, h2⟩ := List.mem_zipIdx' hy;obtain ⟨_, _, _, h5⟩ := hm;exact ⟨y.2, h1, rfl, by rw [← h2]; exact hn.1, h5⟩
 rw [if_neg hn] at he; cases he
theorem a2Y {l : List Nd} {out : Int} (hok : gOk (l, out) = true) {p : Int × Int} (hp : p ∈ a0c l 0) {x : (Int × Int) × Int} (hx : x ∈ gUs (l, out) p) :
 (∃ (k m : Nat) (hm : m < l.length), p = ((k : Int), -1) ∧ x.1 = ((m : Int), -1) ∧ k < m ∧ (k : Int) ∈ l[m].ins) ∨
 (∃ (k n m : Nat) (hn : n < l.length) (hm : m < l[n].body.length), p = ((k : Int), -1) ∧ a04 l = (n : Int) ∧ x.1 = ((n : Int), (m : Int)) ∧ k < n ∧ l[n].body[m].op = 11) ∨
 (∃ (k j m : Nat) (hk : k < l.length) (hm : m < l[k].body.length), p = ((k : Int), (j : Int)) ∧ x.1 = ((k : Int), (m : Int)) ∧ j < m ∧ (j : Int) ∈ l[k].body[m].ins) := by
 obtain ⟨k, hk, h1, h2⟩ := a0q.1 hp;rw [Nat.zero_add] at h1;obtain ⟨p1, p2⟩ := p;dsimp only at h1 h2;subst h1
 rcases h2 with rfl | ⟨h2, h3⟩
 · rw [b0p hok hk] at hx
   unfold a5N a0A at hx
   rcases List.mem_append.1 hx with hx | hx
   · obtain ⟨m, hm, e1, e2⟩ := a3p hx
     rw [Nat.zero_add] at e1;have := (a3k (a1x hok hm).1).2.2.2 _ e2;exact .inl ⟨k, m, hm, rfl, e1, by omega, e2⟩
   by_cases h0 : 0 ≤ a04 l
   · rw [if_pos h0] at hx
     obtain ⟨m, hm, e1, e3, e2⟩ := b2c hx;have hr := a1c l;obtain ⟨n, hn⟩ : ∃ n : Nat, a04 l = (n : Int) := ⟨(a04 l).toNat, by omega⟩
     have hlp : n < l.length := by omega
     have e4 : l[(a04 l).toNat]?.getD default = l[n] := by rw [hn, Int.toNat_natCast, List.getElem?_eq_getElem hlp]; rfl
     have hm' : m < l[n].body.length := by rw [← e4]; exact hm
     have e3' : l[n].body[m].op = 11 := by rw [← e3]; congr 1; simp only [e4]
     rw [e4] at e2
     rcases (a1x hok hlp).2.2.2 with ⟨_, hb⟩ | ⟨_, hb⟩
     · have := b0q hb e2
       exact .inr (.inl ⟨k, n, m, hlp, hm', rfl, hn, by rw [e1, hn], by omega, e3'⟩)
     rw [hb] at hm'; simp at hm'
   rw [if_neg h0] at hx; simp at hx
 obtain ⟨j, rfl⟩ : ∃ j : Nat, p2 = (j : Int) := ⟨p2.toNat, by omega⟩
 have hj : j < l[k].body.length := by omega
 rw [b2Z hok hk hj] at hx;unfold a0A at hx;obtain ⟨m, hm, e1, e2⟩ := a3p hx;rw [Nat.zero_add] at e1
 rcases (a1x hok hk).2.2.2 with ⟨_, hb⟩ | ⟨_, hb⟩
 · have := (a3k ((a4l hb).2.2 m hm).1).2.2.2 _ e2
   exact .inr (.inr ⟨k, j, m, hk, hm, rfl, e1, by omega, e2⟩)
 rw [hb] at hj; simp at hj
theorem a5U {l : List Nd} {out : Int} (hok : gOk (l, out) = true) {k : Nat} (hk : k < l.length) : a83 (l, out) ((k : Int), -1) = l[k].op := by
 unfold a83 gNd;rw [if_pos hok, a1o hk]; rfl
theorem a7p {l : List Nd} {out : Int} (hok : gOk (l, out) = true) {k j : Nat} (hk : k < l.length) (hj : j < l[k].body.length) : a83 (l, out) ((k : Int), (j : Int)) = l[k].body[j].op := by
 unfold a83 gNd;rw [if_pos hok, a1I hk hj]; rfl
theorem b47 {l : List Nd} {out : Int} (hok : gOk (l, out) = true) {k : Nat} (hk : k < l.length) : l[k].op ≠ 10 ∧ l[k].op ≠ 11 := by
 refine ⟨fun q => ?_, b0g hok hk⟩
 have := (a1x hok hk).2.2.1;unfold a2z at this;rw [if_neg (by omega), if_neg (by omega), if_pos q] at this
 simp at this
theorem a7q {l : List Nd} {out : Int} (hok : gOk (l, out) = true) {k j : Nat} (hk : k < l.length) (hj : j < l[k].body.length) : a04 l = (k : Int) ∧ l[k].op = 9 ∧ l[k].body[j].op ≠ 9 ∧ (l[k].body[j].op = 10 ∨ l[k].body[j].op = 11 → l[k].body[j].ins = []) := by
 rcases (a1x hok hk).2.2.2 with ⟨h9, hb⟩ | ⟨_, hb⟩
 · have hbo := (a4l hb).2.2 j hj
   refine ⟨a1X hk (a0T hok).2.2.2.2.2 h9, h9, fun q => ?_, fun q => ?_⟩
   · have := hbo.2.2.1
     unfold a2z at this;rw [if_neg (by omega), if_pos q] at this
     simp only [Bool.and_eq_true, decide_eq_true_eq] at this;omega
   have := hbo.1;unfold base at this;simp only [Bool.and_eq_true, decide_eq_true_eq] at this;have h1 := this.2.1;refine List.eq_nil_of_length_eq_zero ?_;have : arity l[k].body[j].op = 0 := by rcases q with q | q <;> rw [q] <;> rfl
   omega
 rw [hb] at hj; simp at hj
theorem a4r {lp op : Int} {v : Int × Int} : ∀ {b : List Nd} {i : Nat}, v ∈ bgF lp op b i ↔ ∃ (m : Nat) (hm : m < b.length), v = (lp, ((i + m : Nat) : Int)) ∧ b[m].op = op
 | [], i => by simp [bgF]
 | n :: b, i => by
  have ih := a4r (lp := lp) (op := op) (v := v) (b := b) (i := i + 1);unfold bgF;constructor
  · intro h
    by_cases q : n.op = op
    · rw [if_pos q] at h
      rcases List.mem_cons.1 h with e | e
      · exact ⟨0, by simp, by simpa using e, by simpa using q⟩
      · obtain ⟨m, hm, h1, h2⟩ := ih.1 e
        exact ⟨m + 1, by simpa using hm, by rw [h1]; congr 2; omega, by simpa using h2⟩
    · rw [if_neg q] at h
      obtain ⟨m, hm, h1, h2⟩ := ih.1 h;exact ⟨m + 1, by simpa using hm, by rw [h1]; congr 2; omega, by simpa using h2⟩
  · rintro ⟨m, hm, h1, h2⟩
    cases m with
    | zero =>
     rw [if_pos (by simpa using h2)]
     exact List.mem_cons.2 (.inl (by simpa using h1))
    | succ m =>
     have : v ∈ bgF lp op b (i + 1) := ih.2 ⟨m, by simpa using hm, by rw [h1]; congr 2; omega, by simpa using h2⟩
     split
     · exact List.mem_cons_of_mem _ this
     · exact this
theorem a86 {g : G} {p q : Int × Int} : (gUs g p).any (fun u => u.1 == q) = true ↔ ∃ u ∈ gUs g p, u.1 = q := by
 rw [List.any_eq_true];constructor
 · rintro ⟨u, h1, h2⟩; exact ⟨u, h1, by simpa using h2⟩
 rintro ⟨u, h1, h2⟩; exact ⟨u, h1, by simpa using h2⟩
theorem b30 {l : List Nd} {out : Int} (hok : gOk (l, out) = true) {p : Int × Int} (hp : p ∈ a0c l 0) {u : (Int × Int) × Int} (hu : u ∈ gUs (l, out) p) :
 u.1 ∈ a0c l 0 ∧ b41 p u = ((p, u.1), (decide (p.2 < 0) && decide (0 ≤ u.1.2), 0)) ∧ a84 (l, out) p u.1 = some (decide (p.2 < 0) && decide (0 ≤ u.1.2), 0) := by
 have h3 : a84 (l, out) p u.1 = some (decide (p.2 < 0) && decide (0 ≤ u.1.2), 0) := by
  unfold a84;rw [if_pos (a86.2 ⟨u, hu, rfl⟩)]
 refine ⟨?_, ?_, h3⟩
 · rcases a2Y hok hp hu with ⟨k, m, hm, rfl, e, hkm, _⟩ | ⟨k, n, m, hn, hm, rfl, hl, e, hkn, h11⟩ | ⟨k, j, m, hk, hm, rfl, e, hjm, _⟩
   · rw [e]; exact a0q.2 ⟨m, hm, by simp, .inl rfl⟩
   · rw [e]; exact a0q.2 ⟨n, hn, by simp, .inr ⟨by simp, by simpa using hm⟩⟩
   rw [e]; exact a0q.2 ⟨k, hk, by simp, .inr ⟨by simp, by simpa using hm⟩⟩
 unfold b41
 rcases a2Y hok hp hu with ⟨k, m, hm, rfl, e, hkm, _⟩ | ⟨k, n, m, hn, hm, rfl, hl, e, hkn, h11⟩ | ⟨k, j, m, hk, hm, rfl, e, hjm, _⟩
 · rw [e]; simp
 · rw [e]
   have : ((m : Int) != -1) = true := by simp
   simp
 rw [e];have h1 : ((j : Int) == -1) = false := by simp
 have h2 : ¬ ((j : Int) < 0) := by omega
 simp only [h1, decide_eq_false h2, Bool.false_and]
theorem lp_of {l : List Nd} {out : Int} (h : a1A (l, out) = true) : ∃ (n : Nat) (hn : n < l.length) (i0 : Int), gOk (l, out) = true ∧ a04 l = (n : Int) ∧ lpN (l, out) = l[n] ∧ l[n].op = 9 ∧ 1 ≤ l[n].body.length ∧ l[n].body.length ≤ 32 ∧
 (i0 ∈ l[n].ins) ∧ inP (l, out) = (i0, -1) ∧ (lpN (l, out)).ins.head! = i0 ∧ a4p (l, out) = ((n : Int), ((l[n].body.length - 1 : Nat) : Int)) ∧ 0 ≤ i0 ∧ i0 < (n : Int) := by
 obtain ⟨n, hn, i0, ir, h1, h2, h3, h4, h5, h6, h7⟩ := b0h h
 have hok : gOk (l, out) = true := by
  unfold a1A at h;rw [Bool.and_eq_true] at h;exact h.1
 have h1 : a04 l = (n : Int) := h1;have h4 : l[n].ins = i0 :: ir := h4;have h3 : lpN (l, out) = l[n] := h3;have h5 : 1 ≤ l[n].body.length := h5;have hi := (a3k (a1x hok hn).1).2.2.2 i0 (by rw [h4]; simp)
 refine ⟨n, hn, i0, hok, h1, h3, h7, h5, h6, by rw [h4]; simp, ?_, ?_, ?_, by omega, by omega⟩
 · unfold inP; rw [h3, h4]; rfl
 · rw [h3, h4]; rfl
 unfold a4p;simp only;rw [h3, h1]
 congr 1
 omega
theorem a5k {n i0 : Int} {b : List Nd} {x : Ar} : x ∈ a3B n i0 b ↔ x = (((n, (b.length : Int) - 1), (n, -1)), (true, 0)) ∨ (∃ v ∈ bgF n 10 b 0, x = (((i0, -1), v), (true, 0)) ∨ x = (((n, (b.length : Int) - 1), v), (false, 1))) ∨ (∃ v ∈ bgF n 11 b 0, x = (((n, (b.length : Int) - 1), v), (false, 1))) := by
 unfold a3B;rw [List.mem_cons, List.mem_append, List.mem_flatMap, List.mem_map];constructor
 · rintro (h | ⟨v, hv, h⟩ | ⟨v, hv, h⟩)
   · exact .inl h
   · refine .inr (.inl ⟨v, hv, ?_⟩)
     unfold a6N at h;simpa using h
   exact .inr (.inr ⟨v, hv, h.symm⟩)
 rintro (h | ⟨v, hv, h⟩ | ⟨v, hv, h⟩)
 · exact .inl h
 · refine .inr (.inl ⟨v, hv, ?_⟩)
   unfold a6N;simpa using h
 exact .inr (.inr ⟨v, hv, h.symm⟩)
theorem op9 {l : List Nd} {out : Int} (hok : gOk (l, out) = true) {n : Nat} (hn : n < l.length) (h9 : l[n].op = 9) {q : Int × Int} (hq : q ∈ a0c l 0) : a83 (l, out) q = 9 ↔ q = ((n : Int), -1) := by
 obtain ⟨k, hk, h1, h2⟩ := a0q.1 hq;rw [Nat.zero_add] at h1;obtain ⟨q1, q2⟩ := q;dsimp only at h1 h2;subst h1;have hln := a1X hn (a0T hok).2.2.2.2.2 h9;constructor
 · intro e
   rcases h2 with rfl | ⟨h2, h3⟩
   · rw [a5U hok hk] at e
     have := a1X hk (a0T hok).2.2.2.2.2 e;rw [← this, hln]
   obtain ⟨j, rfl⟩ : ∃ j : Nat, q2 = (j : Int) := ⟨q2.toNat, by omega⟩
   have hj : j < l[k].body.length := by omega
   rw [a7p hok hk hj] at e;exact absurd e (a7q hok hk hj).2.2.1
 intro e;rw [e, a5U hok hn, h9]
theorem a5l {l : List Nd} {out : Int} (hok : gOk (l, out) = true) {n : Nat} (hn : n < l.length) (hln : a04 l = (n : Int)) {op : Int} (hop : op = 10 ∨ op = 11) {q : Int × Int} (hq : q ∈ a0c l 0) : a83 (l, out) q = op ↔ q ∈ bgF (n : Int) op l[n].body 0 := by
 rw [a4r];constructor
 · intro e
   obtain ⟨k, hk, h1, h2⟩ := a0q.1 hq;rw [Nat.zero_add] at h1;obtain ⟨q1, q2⟩ := q;dsimp only at h1 h2;subst h1
   rcases h2 with rfl | ⟨h2, h3⟩
   · rw [a5U hok hk] at e
     have := b47 hok hk
     rcases hop with h | h <;> omega
   obtain ⟨j, rfl⟩ : ∃ j : Nat, q2 = (j : Int) := ⟨q2.toNat, by omega⟩
   have hj : j < l[k].body.length := by omega
   have hkn : k = n := by have := (a7q hok hk hj).1; omega
   subst hkn;rw [a7p hok hk hj] at e;exact ⟨j, hj, by simp, e⟩
 rintro ⟨m, hm, rfl, e⟩;rw [Nat.zero_add, a7p hok hn hm, e]
theorem a5V {l : List Nd} {n m : Nat} (hn : n < l.length) (hm : m < l[n].body.length) : ((n : Int), (m : Int)) ∈ a0c l 0 := a0q.2 ⟨n, hn, by simp, .inr ⟨by simp, by simpa using hm⟩⟩
theorem a7r {l : List Nd} {out : Int} (hok : gOk (l, out) = true) {p q : Int × Int} (hp : p ∈ a0c l 0) {n m : Nat} (hn : n < l.length) (hm : m < l[n].body.length) (hq : q = ((n : Int), (m : Int))) (h : l[n].body[m].op = 10 ∨ (l[n].body[m].op = 11 ∧ 0 ≤ p.2)) : ¬ (gUs (l, out) p).any (fun u => u.1 == q) = true := by
 rw [a86];rintro ⟨u, hu, he⟩;rw [hq] at he
 rcases a2Y hok hp hu with ⟨k, m', hm', rfl, e, hkm, _⟩ | ⟨k, n', m', hn', hm', rfl, hl, e, hkn, h11⟩ | ⟨k, j, m', hk, hm', rfl, e, hjm, hin⟩
 · rw [e] at he; injection he with a b; omega
 · rw [e] at he
   injection he with a b
   have a : n' = n := by omega
   have b : m' = m := by omega
   subst a b
   rcases h with h | ⟨h, h2⟩
   · omega
   simp at h2
 rw [e] at he;injection he with a b
 have a : k = n := by omega
 have b : m' = m := by omega
 subst a b;have := (a7q hok hk hm').2.2.2 (by rcases h with h | ⟨h, _⟩ <;> simp [h])
 rw [this] at hin; simp at hin
theorem b48 {l : List Nd} {n : Nat} (hn : n < l.length) : ((n : Int), (-1 : Int)) ∈ a0c l 0 := a0q.2 ⟨n, hn, by simp, .inl rfl⟩
theorem a8U {l : List Nd} {out : Int} (hok : gOk (l, out) = true) {p : Int × Int} (hp : p ∈ a0c l 0) {n : Nat} (hp2 : 0 ≤ p.2) : ¬ (gUs (l, out) p).any (fun u => u.1 == ((n : Int), (-1 : Int))) = true := by
 rw [a86];rintro ⟨u, hu, he⟩
 rcases a2Y hok hp hu with ⟨k, m', hm', rfl, e, hkm, _⟩ | ⟨k, n', m', hn', hm', rfl, hl, e, hkn, h11⟩ | ⟨k, j, m', hk, hm', rfl, e, hjm, hin⟩
 · simp at hp2
 · rw [e] at he; injection he with a b; omega
 rw [e] at he; injection he with a b; omega
theorem a4s (g : G) (x : Ar) : x ∈ a3I g ↔ x ∈ a2X g := by
 obtain ⟨l, out⟩ := g;rw [a1f]
 cases hok : gOk (l, out) with
 | false =>
  have h1 : gPl (l, out) = [] := by unfold gPl; rw [if_neg (by rw [hok]; simp)]
  have h2 : a7Z (l, out) = [] := by unfold a7Z a1A; rw [hok]; rfl
  unfold a3I;rw [h1, h2];simp
 | true =>
 have hpl : gPl (l, out) = a0c l 0 := by unfold gPl; rw [if_pos hok]; rfl
 unfold a3I;rw [List.mem_append, hpl, List.mem_flatMap];obtain ⟨⟨p, q⟩, w⟩ := x;simp only;constructor
 · rintro (⟨p', hp', hx⟩ | hx)
   · unfold a5S at hx
     obtain ⟨u, hu, he⟩ := List.mem_map.1 hx;obtain ⟨h1, h2, h3⟩ := b30 hok hp' hu;rw [h2] at he;injection he with a b
     injection a with a c
     subst a b c;exact ⟨hp', h1, h3⟩
   unfold a7Z at hx
   by_cases hB : a1A (l, out) = true
   · rw [if_pos hB] at hx
     obtain ⟨n, hn, i0, -, hln, hN, h9, hb1, hb2, hi, hin, hhd, hla, hi0, hin2⟩ := lp_of hB;rw [hN] at hhd;rw [hN, hhd, hln] at hx;have hlm : l[n].body.length - 1 < l[n].body.length := by omega
     have hlast : ((n : Int), (l[n].body.length : Int) - 1) = a4p (l, out) := by rw [hla]; congr 1; omega
     have hlpl : a4p (l, out) ∈ a0c l 0 := by rw [hla]; exact a5V hn hlm
     have hl2 : 0 ≤ (a4p (l, out)).2 := by rw [hla]; simp
     have hpi : ((i0, -1) : Int × Int) ∈ a0c l 0 := by
      obtain ⟨k, rfl⟩ : ∃ k : Nat, i0 = (k : Int) := ⟨i0.toNat, by omega⟩
      exact b48 (by omega)
     have hne : a4p (l, out) ≠ inP (l, out) := by rw [hla, hin]; intro e; injection e with a b; omega
     have hl0 : ¬ a04 l < 0 := by omega
     rw [a5k, hlast] at hx
     rcases hx with hx | ⟨v, hv, hx | hx⟩ | ⟨v, hv, hx⟩
     · injection hx with a b
       injection a with a c
       subst a b c;refine ⟨hlpl, b48 hn, ?_⟩;have e9 := (op9 hok hn h9 (b48 hn)).2 rfl;unfold a84;rw [if_neg (a8U hok hlpl hl2), if_neg hl0, if_neg (fun e => hne e.1), if_neg (by rw [e9]; omega), if_pos ⟨rfl, e9⟩]
     · injection hx with a b
       injection a with a c
       subst a b c;have hvm := a4r.1 hv;obtain ⟨m, hm, e, h10⟩ := hvm;rw [Nat.zero_add] at e;have hvp : q ∈ a0c l 0 := by rw [e]; exact a5V hn hm
       refine ⟨hpi, hvp, ?_⟩;unfold a84;rw [if_neg (a7r hok hpi hn hm e (.inl h10)), if_neg hl0, if_pos ⟨hin.symm, (a5l hok hn hln (.inl rfl) hvp).2 hv⟩]
     · injection hx with a b
       injection a with a c
       subst a b c;have hvm := a4r.1 hv;obtain ⟨m, hm, e, h10⟩ := hvm;rw [Nat.zero_add] at e;have hvp : q ∈ a0c l 0 := by rw [e]; exact a5V hn hm
       refine ⟨hlpl, hvp, ?_⟩;unfold a84;rw [if_neg (a7r hok hlpl hn hm e (.inl h10)), if_neg hl0, if_neg (fun e => hne e.1), if_pos ⟨rfl, .inl ((a5l hok hn hln (.inl rfl) hvp).2 hv)⟩]
     injection hx with a b
     injection a with a c
     subst a b c;have hvm := a4r.1 hv;obtain ⟨m, hm, e, h10⟩ := hvm;rw [Nat.zero_add] at e;have hvp : q ∈ a0c l 0 := by rw [e]; exact a5V hn hm
     refine ⟨hlpl, hvp, ?_⟩;unfold a84;rw [if_neg (a7r hok hlpl hn hm e (.inr ⟨h10, hl2⟩)), if_neg hl0, if_neg (fun e => hne e.1), if_pos ⟨rfl, .inr ((a5l hok hn hln (.inr rfl) hvp).2 hv)⟩]
   rw [if_neg hB] at hx; simp at hx
 rintro ⟨hp, hq, hf⟩;unfold a84 at hf
 by_cases hu : (gUs (l, out) p).any (fun u => u.1 == q) = true
 · rw [if_pos hu] at hf
   injection hf with hf
   obtain ⟨u, hu2, rfl⟩ := a86.1 hu;obtain ⟨h1, h2, h3⟩ := b30 hok hp hu2;refine .inl ⟨p, hp, ?_⟩;unfold a5S;exact List.mem_map.2 ⟨u, hu2, by rw [h2, hf]⟩
 rw [if_neg hu] at hf
 by_cases hl0 : a04 l < 0
 · rw [if_pos hl0] at hf; cases hf
 rw [if_neg hl0] at hf;have hB : a1A (l, out) = true := by unfold a1A; rw [hok]; simp; omega
 refine .inr ?_;unfold a7Z;rw [if_pos hB];obtain ⟨n, hn, i0, -, hln, hN, h9, hb1, hb2, hi, hin, hhd, hla, hi0, hin2⟩ := lp_of hB;rw [hN] at hhd;rw [hN, hhd, hln];have hlast : ((n : Int), (l[n].body.length : Int) - 1) = a4p (l, out) := by rw [hla]; congr 1; omega
 rw [a5k, hlast]
 by_cases c1 : p = inP (l, out) ∧ a83 (l, out) q = 10
 · rw [if_pos c1] at hf
   injection hf with hf
   exact .inr (.inl ⟨q, (a5l hok hn hln (.inl rfl) hq).1 c1.2, .inl (by rw [c1.1, hin, hf])⟩)
 rw [if_neg c1] at hf
 by_cases c2 : p = a4p (l, out) ∧ (a83 (l, out) q = 10 ∨ a83 (l, out) q = 11)
 · rw [if_pos c2] at hf
   injection hf with hf
   rcases c2.2 with o | o
   · exact .inr (.inl ⟨q, (a5l hok hn hln (.inl rfl) hq).1 o, .inr (by rw [c2.1, hf])⟩)
   exact .inr (.inr ⟨q, (a5l hok hn hln (.inr rfl) hq).1 o, by rw [c2.1, hf]⟩)
 rw [if_neg c2] at hf
 by_cases c3 : p = a4p (l, out) ∧ a83 (l, out) q = 9
 · rw [if_pos c3] at hf
   injection hf with hf
   exact .inl (by rw [c3.1, (op9 hok hn h9 hq).1 c3.2, hf])
 rw [if_neg c3] at hf; cases hf
theorem b0t {g : G} : ∀ a ∈ a3I g, ∀ b ∈ a3I g, a.1 = b.1 → a = b := by
 intro a ha b hb e;have h1 := (a1f.1 ((a4s g a).1 ha)).2.2;have h2 := (a1f.1 ((a4s g b).1 hb)).2.2;rw [e, h2] at h1;injection h1 with h1
 exact Prod.ext e h1.symm
theorem b49 {g : G} {s : List Ar} (hp : s.Perm (a3I g)) (hs : b3I s) : dd s = a2X g := dd_is hp hs b0t (a6G g) (a4s g)
theorem b0u {g : G} (h : (gPl g).length ≤ 20) : (a3I g).length ≤ 5000 := by
 have h1 : ((gPl g).flatMap (a5S g)).length ≤ 2000 := by
  have e : ((gPl g).flatMap (a5S g)).length = tot (fun p => (gUs g p).length) (gPl g) := by
   rw [List.length_flatMap];unfold tot
   congr 1
   refine List.map_congr_left fun p _ => ?_
   unfold a5S;simp
  rw [e, b0r];have := b0j (fun p => a1B ((gNd g p).getD default)) 100 (gPl g) (fun p _ => b46)
  omega
 have h2 : (a7Z g).length ≤ 200 := by
  unfold a7Z
  by_cases hB : a1A g = true
  · rw [if_pos hB]
    obtain ⟨n, hn, i0, ir, e1, e2, e3, e4, e5, e6, e7⟩ := b0h hB;rw [e3];unfold a3B;have a1 := a4e (a04 g.1) 10 (g.1[n]).body 0;have a2 := a4e (a04 g.1) 11 (g.1[n]).body 0;rw [List.length_cons, List.length_append, a3N, List.length_map];omega
  rw [if_neg hB]; simp
 unfold a3I;rw [List.length_append];omega
theorem b0v {g : G} (h : (gPl g).length ≤ 20) : (a2X g).length ≤ 400 := by
 have : ∀ l : List (Int × Int), (l.flatMap (b0s g)).length ≤ l.length * 20 := by
  intro l
  induction l with
  | nil => simp
  | cons p l ih =>
  have : (b0s g p).length ≤ 20 := Nat.le_trans (List.length_filterMap_le _ _) h;rw [List.flatMap_cons, List.length_append, List.length_cons];omega
 have := this (gPl g);unfold a2X;omega
end Go.Ox.Pl
namespace Go.Proofs.YtdkejfjcchlnpaaGreat
open Go.RowKit Go.Ox Go.Ox.Gr
theorem b2d (d : Nat) (v : Value) (g : G) (w : World) (hv : a00 d w v g.1) (hl : (gPl g).length ≤ 20) :
 Calls Tryz.prog 136 #[gAg v g.2] w fun e w' => ∃ u, e = .returned u ∧ OE 144 w.heap.size w' u (Pl.a2X g) ∧ Ext w w' := by
 refine (b2b d v g w hv (Pl.b0u hl)).mono ?_;rintro e w' ⟨u, s, rfl, hp, hs, ho, he⟩;exact ⟨u, rfl, by rw [← Pl.b49 hp hs]; exact ho, he⟩
end Go.Proofs.YtdkejfjcchlnpaaGreat
