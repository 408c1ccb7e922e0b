/-
  GrOrd, packed: what the claim needs of them.
-/
import Derived.Test.YtdkejfjcchlnpaaGreatFn29
set_option linter.unusedVariables false
namespace Go.Ox.Gr
def tot {α : Type} (f : α → Nat) (l : List α) : Nat := (l.map f).sum
theorem a7k {α : Type} (f : α → Nat) (l r : List α) : tot f (l ++ r) = tot f l + tot f r := by unfold tot; rw [List.map_append, List.sum_append]
theorem b0j {α : Type} (f : α → Nat) (c : Nat) : ∀ (l : List α), (∀ x ∈ l, f x ≤ c) → tot f l ≤ l.length * c
 | [], _ => by simp [tot]
 | x :: l, h => by
  have h1 := b0j f c l fun y hy => h y (List.mem_cons_of_mem _ hy)
  have h2 := h x List.mem_cons_self;unfold tot at *;rw [List.map_cons, List.sum_cons, List.length_cons, Nat.add_mul];omega
theorem a2i {α : Type} {f g : α → Nat} : ∀ {l : List α}, (∀ x ∈ l, f x = g x) → tot f l = tot g l
 | [], _ => rfl
 | x :: l, h => by
  have h1 := a2i fun y hy => h y (List.mem_cons_of_mem _ hy)
  unfold tot at *;rw [List.map_cons, List.map_cons, List.sum_cons, List.sum_cons, h x List.mem_cons_self, h1]
theorem a7l {α : Type} (f g : α → Nat) : ∀ (l : List α), tot (fun x => f x + g x) l = tot f l + tot g l
 | [] => rfl
 | x :: l => by
  have h1 := a7l f g l;unfold tot at *;rw [List.map_cons, List.map_cons, List.map_cons, List.sum_cons, List.sum_cons, List.sum_cons, h1];omega
def sm (N : Nat) (g : Nat → Nat) : Nat := tot g (List.range N)
theorem sm_0 (g : Nat → Nat) : sm 0 g = 0 := rfl
theorem sm_s (N : Nat) (g : Nat → Nat) : sm (N + 1) g = sm N g + g N := by
 unfold sm;rw [List.range_succ, a7k];simp [tot]
theorem sm_f (N : Nat) (g : Nat → Nat) : sm (N + 1) g = g 0 + sm N (fun k => g (k + 1)) := by
 unfold sm tot;rw [List.range_succ_eq_map, List.map_cons, List.sum_cons, List.map_map];rfl
theorem sm_add (N : Nat) (f g : Nat → Nat) : sm N (fun k => f k + g k) = sm N f + sm N g := a7l f g _
theorem a2V {N : Nat} {f g : Nat → Nat} (h : ∀ k, k < N → f k = g k) : sm N f = sm N g := a2i fun k hk => h k (List.mem_range.1 hk)
theorem b2V (x : Int) : ∀ (N : Nat), 0 ≤ x → sm N (fun k => if x = (k : Int) then 1 else 0) = if x < (N : Int) then 1 else 0
 | 0, h => by rw [sm_0, if_neg (by omega)]
 | N + 1, h => by
  rw [sm_s, b2V x N h]
  by_cases h1 : x < (N : Int)
  · rw [if_pos h1, if_neg (by omega), if_pos (by omega)]
  · rw [if_neg h1]
    by_cases h2 : x = (N : Int)
    · rw [if_pos h2, if_pos (by omega)]
    · rw [if_neg h2, if_neg (by omega)]
def cnt (i : Int) (l : List Int) : Nat := tot (fun x => if x = i then 1 else 0) l
theorem b0k (i : Int) (l r : List Int) : cnt i (l ++ r) = cnt i l + cnt i r := a7k _ _ _
theorem a5T (i x : Int) (l : List Int) : cnt i (x :: l) = (if x = i then 1 else 0) + cnt i l := by unfold cnt tot; rw [List.map_cons, List.sum_cons]
theorem a7m (N : Nat) : ∀ (l : List Int), (∀ x ∈ l, 0 ≤ x ∧ x < (N : Int)) → sm N (fun k => cnt (k : Int) l) = l.length
 | [], _ => by
  have : sm N (fun k => cnt (k : Int) []) = sm N fun _ => 0 := rfl
  rw [this];unfold sm;have := b0j (fun _ : Nat => 0) 0 (List.range N) (fun _ _ => Nat.le_refl _)
  simp at this ⊢;exact this
 | x :: l, h => by
  have hx := h x List.mem_cons_self
  have e : sm N (fun k => cnt (k : Int) (x :: l)) = sm N (fun k => if x = (k : Int) then 1 else 0) + sm N fun k => cnt (k : Int) l := by
   rw [← sm_add];exact a2V fun k _ => a5T _ _ _
  rw [e, b2V x N hx.1, if_pos hx.2, a7m N l fun y hy => h y (List.mem_cons_of_mem _ hy), List.length_cons, Nat.add_comm]
theorem a7n (name : Int) (p : Int × Int) : ∀ (ins : List Int) (i : Nat), ((ins.zipIdx i).filterMap fun x => if x.1 = name then some (p, (x.2 : Int)) else none).length = cnt name ins
 | [], _ => rfl
 | x :: ins, i => by
  rw [List.zipIdx_cons, List.filterMap_cons, a5T]
  by_cases h : x = name
  · simp only [if_pos h, List.length_cons, a7n name p ins (i + 1)]; omega
  · simp only [if_neg h, a7n name p ins (i + 1)]; omega
theorem a3o (name : Int) (f : Nat → Int × Int) : ∀ (l : List Nd) (i : Nat), (a0W name f l i).length = cnt name (l.flatMap Nd.ins)
 | [], _ => rfl
 | n :: l, i => by
  unfold a0W;rw [List.length_append, List.flatMap_cons, b0k, a3o name f l (i + 1)]
  congr 1
  exact a7n name (f i) n.ins 0
def outs (b : List Nd) : List Int := (b.filter fun n => decide (n.op = 11)).map Nd.a
theorem b2W {n : Nd} (b : List Nd) (h : n.op = 11) : outs (n :: b) = n.a :: outs b := by
 unfold outs;rw [List.filter_cons, if_pos (by simpa using h)]
 rfl
theorem b2X {n : Nd} (b : List Nd) (h : n.op ≠ 11) : outs (n :: b) = outs b := by
 unfold outs;rw [List.filter_cons, if_neg (by simpa using h)]
theorem b0l (name lp : Int) : ∀ (b : List Nd) (i : Nat), ((b.zipIdx i).filterMap fun x => if x.1.op = 11 ∧ x.1.a = name then some ((lp, (x.2 : Int)), (0 : Int)) else none).length = cnt name (outs b)
 | [], _ => rfl
 | n :: b, i => by
  have h := b0l name lp b (i + 1);rw [List.zipIdx_cons, List.filterMap_cons]
  by_cases h1 : n.op = 11
  · rw [b2W b h1, a5T]
    by_cases h2 : n.a = name
    · simp only [if_pos (And.intro h1 h2), if_pos h2, List.length_cons, h]; omega
    · simp only [if_neg (fun q : n.op = 11 ∧ n.a = name => h2 q.2), if_neg h2, h]; omega
  · rw [b2X b h1]
    simp only [if_neg (fun q : n.op = 11 ∧ n.a = name => h1 q.1), h]
def named (l : List Nd) : List Int := l.flatMap Nd.ins ++ a0m (fun _ n => outs n.body) l 0
theorem a6E {l : List Nd} {out : Int} (h : gOk (l, out) = true) : a0m (fun _ n => outs n.body) l 0 = if 0 ≤ a04 l then outs (l[(a04 l).toNat]?.getD default).body else [] := by
 rw [a2R (a0T h).2.2.2.2.2 fun i n hn h9 => by rw [a4n h hn h9]; rfl]
 unfold a04;rw [Nat.sub_zero]
theorem b0m {l : List Nd} {out : Int} (h : gOk (l, out) = true) (i : Int) : (a5N l i).length = cnt i (named l) := by
 unfold a5N named a0A;rw [List.length_append, b0k, a3o, a6E h]
 congr 1
 by_cases h0 : 0 ≤ a04 l
 · rw [if_pos h0, if_pos h0]
   exact b0l i (a04 l) _ 0
 rw [if_neg h0, if_neg h0]; rfl
theorem b0n (f : Pl → Nat) (g : Nat → Nat) (hh : Nd → Nat → Nat) : ∀ (l : List Nd) (i : Nat), (∀ (k : Nat) (hk : k < l.length), f (((i + k : Nat) : Int), -1) = g (i + k) ∧ ∀ (j : Nat), j < l[k].body.length → f (((i + k : Nat) : Int), (j : Int)) = hh l[k] j) →
 tot f (a0c l i) = sm l.length (fun k => g (i + k)) + tot (fun n => sm n.body.length (hh n)) l
 | [], _, _ => rfl
 | n :: l, i, h => by
  have h0 := h 0 (by simp)
  rw [Nat.add_zero] at h0;have h0a : f ((i : Int), -1) = g i := h0.1;have h0b : ∀ (j : Nat), j < n.body.length → f ((i : Int), (j : Int)) = hh n j := h0.2
  have ih := b0n f g hh l (i + 1) fun k hk => by
   have := h (k + 1) (by simpa using hk)
   rw [show i + (k + 1) = i + 1 + k by omega] at this
   exact this
  have e1 : tot f (plN i n.body.length) = g i + sm n.body.length (hh n) := by
   have e2 : tot f (plN i n.body.length) = f ((i : Int), -1) + sm n.body.length (fun (k : Nat) => f ((i : Int), (k : Int))) := by
    unfold plN sm tot;rw [List.map_cons, List.sum_cons, List.map_map];rfl
   rw [e2, h0a, a2V h0b]
  have e3 : tot (fun n => sm n.body.length (hh n)) (n :: l) = sm n.body.length (hh n) + tot (fun n => sm n.body.length (hh n)) l := by unfold tot; rw [List.map_cons, List.sum_cons]
  have e4 : sm (l.length + 1) (fun k => g (i + k)) = g i + sm l.length (fun k => g (i + 1 + k)) := by
   rw [sm_f]
   congr 1
   exact a2V fun k _ => by rw [show i + (k + 1) = i + 1 + k by omega]
  unfold a0c;rw [a7k, e1, ih, e3, List.length_cons, e4];omega
theorem a7o (F : Nd → Nat) : ∀ (b : List Nd), sm b.length (fun j => F (b[j]?.getD default)) = tot F b
 | [] => rfl
 | n :: b => by
  have ih := a7o F b;rw [List.length_cons, sm_f];unfold tot at *;rw [List.map_cons, List.sum_cons, ← ih];rfl
theorem b0o {α : Type} (F : Nd → List α) : ∀ (l : List Nd), (l.flatMap F).length = tot (fun n => (F n).length) l
 | [] => rfl
 | n :: l => by
  have ih := b0o F l;unfold tot at *;rw [List.flatMap_cons, List.length_append, ih, List.map_cons, List.sum_cons]
theorem b2Y {α : Type} (F : Nd → List α) : ∀ (l : List Nd) (i : Nat), (a0m (fun _ n => F n) l i).length = tot (fun n => (F n).length) l
 | [], _ => rfl
 | n :: l, i => by
  have ih := b2Y F l (i + 1)
  show (F n ++ a0m (fun _ n => F n) l (i + 1)).length = _
  unfold tot at *;rw [List.length_append, ih, List.map_cons, List.sum_cons]
def a1B (n : Nd) : Nat := n.ins.length + (if n.op = 11 then 1 else 0)
theorem a6F : ∀ (b : List Nd), tot a1B b = (b.flatMap Nd.ins).length + (outs b).length
 | [] => rfl
 | n :: b => by
  have ih := a6F b;have e : tot a1B (n :: b) = a1B n + tot a1B b := by unfold tot; rw [List.map_cons, List.sum_cons]
  rw [e, ih, List.flatMap_cons, List.length_append];unfold a1B
  by_cases h : n.op = 11
  · rw [if_pos h, b2W b h, List.length_cons]; omega
  · rw [if_neg h, b2X b h]; omega
theorem b0p {l : List Nd} {out : Int} (h : gOk (l, out) = true) {k : Nat} (hk : k < l.length) : gUs (l, out) ((k : Int), -1) = a5N l (k : Int) := by
 have e : gNd (l, out) ((k : Int), -1) = some l[k] := by unfold gNd; rw [if_pos h]; exact a1o hk
 rw [← b2U h];unfold gUs;rw [e];rfl
theorem b2Z {l : List Nd} {out : Int} (h : gOk (l, out) = true) {k j : Nat} (hk : k < l.length) (hj : j < l[k].body.length) : gUs (l, out) ((k : Int), (j : Int)) = a0A (j : Int) (fun m => ((k : Int), (m : Int))) l[k].body := by
 have e : gNd (l, out) ((k : Int), (j : Int)) = some l[k].body[j] := by unfold gNd; rw [if_pos h]; exact a1I hk hj
 rw [← ru_in h hk hj];unfold gUs;rw [e];have hn : ¬ ((j : Int) < 0) := by omega
 exact (if_pos rfl).trans (if_neg hn)
theorem a81 {l : List Nd} {x : Int} (h : x ∈ l.flatMap Nd.ins) : ∃ (k : Nat) (hk : k < l.length), x ∈ l[k].ins := by
 obtain ⟨n, hn, hx⟩ := List.mem_flatMap.1 h;obtain ⟨k, hk, rfl⟩ := List.getElem_of_mem hn;exact ⟨k, hk, hx⟩
theorem b0q {b : List Nd} {k : Nat} (h : a2K b k = true) {x : Int} (hx : x ∈ outs b) : 0 ≤ x ∧ x < (k : Int) := by
 unfold outs at hx;obtain ⟨n, hn, rfl⟩ := List.mem_map.1 hx;obtain ⟨hn, ho⟩ := List.mem_filter.1 hn;obtain ⟨j, hj, rfl⟩ := List.getElem_of_mem hn;have h11 : b[j].op = 11 := by simpa using ho
 have := ((a4l h).2.2 j hj).2.2.1;unfold a2z at this;rw [if_neg (by omega), if_neg (by omega), if_neg (by omega), if_pos h11] at this
 simp only [Bool.and_eq_true, decide_eq_true_eq] at this;exact this.2
theorem b0r {g : G} : tot (fun p => (gUs g p).length) (gPl g) = tot (fun p => a1B ((gNd g p).getD default)) (gPl g) := by
 obtain ⟨l, out⟩ := g
 cases hok : gOk (l, out) with
 | false =>
  have : gPl (l, out) = [] := by unfold gPl; rw [if_neg (by rw [hok]; simp)]
  rw [this]; rfl
 | true =>
 have hpl : gPl (l, out) = a0c l 0 := by unfold gPl; rw [if_pos hok]; rfl
 have hnd : ∀ p, gNd (l, out) p = nodeAt l p := fun p => by unfold gNd; rw [if_pos hok]
 rw [hpl]
 have e1 : tot (fun p => (gUs (l, out) p).length) (a0c l 0) = sm l.length (fun k => cnt ((0 + k : Nat) : Int) (named l)) + tot (fun n => sm n.body.length (fun j => cnt (j : Int) (n.body.flatMap Nd.ins))) l := by
  refine b0n _ (fun k => cnt (k : Int) (named l)) (fun n j => cnt (j : Int) (n.body.flatMap Nd.ins)) l 0 fun k hk => ⟨?_, fun j hj => ?_⟩
  · rw [Nat.zero_add]
    show (gUs (l, out) ((k : Int), -1)).length = _;rw [b0p hok hk, b0m hok]
  rw [Nat.zero_add]
  show (gUs (l, out) ((k : Int), (j : Int))).length = _;rw [b2Z hok hk hj];exact a3o _ _ _ 0
 have e2 : tot (fun p => a1B ((gNd (l, out) p).getD default)) (a0c l 0) = sm l.length (fun k => a1B (l[0 + k]?.getD default)) + tot (fun n => sm n.body.length (fun j => a1B (n.body[j]?.getD default))) l := by
  refine b0n _ (fun k => a1B (l[k]?.getD default)) (fun n j => a1B (n.body[j]?.getD default)) l 0 fun k hk => ⟨?_, fun j hj => ?_⟩
  · rw [Nat.zero_add, hnd, a1o hk, List.getElem?_eq_getElem hk]
  rw [Nat.zero_add, hnd, a1I hk hj, List.getElem?_eq_getElem hj]
 have e3 : sm l.length (fun k => cnt ((0 + k : Nat) : Int) (named l)) = (named l).length := by
  rw [← a7m l.length (named l)]
  · exact a2V fun k _ => by rw [Nat.zero_add]
  intro x hx;unfold named at hx
  rcases List.mem_append.1 hx with hx | hx
  · obtain ⟨k, hk, hx⟩ := a81 hx
    have := (a3k (a1x hok hk).1).2.2.2 x hx;omega
  rw [a6E hok] at hx
  by_cases h0 : 0 ≤ a04 l
  · rw [if_pos h0] at hx
    have hr := a1c l;have hk : (a04 l).toNat < l.length := by omega
    rw [List.getElem?_eq_getElem hk, Option.getD_some] at hx
    rcases (a1x hok hk).2.2.2 with ⟨_, hb⟩ | ⟨_, hb⟩
    · have := b0q hb hx
      omega
    rw [hb] at hx; simp [outs] at hx
  rw [if_neg h0] at hx; simp at hx
 have e4 : sm l.length (fun k => a1B (l[0 + k]?.getD default)) = tot a1B l := by
  rw [← a7o a1B l];exact a2V fun k _ => by rw [Nat.zero_add]
 have e5 : tot (fun n => sm n.body.length (fun j => a1B (n.body[j]?.getD default))) l = tot (fun n => (n.body.flatMap Nd.ins).length) l + tot (fun n => (outs n.body).length) l := by
  rw [← a7l];exact a2i fun n _ => by rw [a7o a1B, a6F]
 have e6 : tot (fun n => sm n.body.length (fun j => cnt (j : Int) (n.body.flatMap Nd.ins))) l = tot (fun n => (n.body.flatMap Nd.ins).length) l := by
  refine a2i fun n hn => a7m _ _ fun x hx => ?_
  obtain ⟨k, hk, rfl⟩ := List.getElem_of_mem hn
  rcases (a1x hok hk).2.2.2 with ⟨_, hb⟩ | ⟨_, hb⟩
  · obtain ⟨j, hj, hx⟩ := a81 hx
    have := (a3k ((a4l hb).2.2 j hj).1).2.2.2 x hx;omega
  rw [hb] at hx; simp at hx
 have e7 : tot a1B l = (l.flatMap Nd.ins).length := by
  rw [b0o];refine a2i fun n hn => ?_
  obtain ⟨k, hk, rfl⟩ := List.getElem_of_mem hn;unfold a1B;rw [if_neg (b0g hok hk), Nat.add_zero]
 have e8 : (named l).length = (l.flatMap Nd.ins).length + tot (fun n => (outs n.body).length) l := by
  unfold named;rw [List.length_append, b2Y]
 rw [e1, e2, e3, e4, e5, e6, e7, e8];omega
def plt (p q : Pl) : Prop := p.1 < q.1 ∨ (p.1 = q.1 ∧ p.2 < q.2)
theorem a8T (i n : Nat) : (plN i n).Pairwise plt := by
 unfold plN;refine List.pairwise_cons.2 ⟨fun q hq => ?_, ?_⟩
 · obtain ⟨k, hk, rfl⟩ := List.mem_map.1 hq
   exact .inr ⟨rfl, by show (-1 : Int) < (k : Int); omega⟩
 rw [List.pairwise_map];exact List.pairwise_lt_range.imp fun h => .inr ⟨rfl, by show ((_ : Nat) : Int) < ((_ : Nat) : Int); omega⟩
theorem a2W : ∀ (l : List Nd) (i : Nat), (a0c l i).Pairwise plt
 | [], _ => List.Pairwise.nil
 | n :: l, i => by
  unfold a0c;refine List.pairwise_append.2 ⟨a8T _ _, a2W l (i + 1), fun p hp q hq => .inl ?_⟩
  obtain ⟨k, hk, h1, -⟩ := a0q.1 hq
  have h2 : p.1 = (i : Int) := by
   unfold plN at hp
   rcases List.mem_cons.1 hp with rfl | hp
   · rfl
   · obtain ⟨k, hk, rfl⟩ := List.mem_map.1 hp; rfl
  omega
theorem b44 {name : Int} {p : Int × Int} {x : (Int × Int) × Int} : ∀ {ins : List Int} {i : Nat}, x ∈ ((ins.zipIdx i).filterMap fun y => if y.1 = name then some (p, (y.2 : Int)) else none) → x.1 = p ∧ name ∈ ins := by
 intro ins i h;obtain ⟨y, hy, he⟩ := List.mem_filterMap.1 h
 by_cases hn : y.1 = name
 · rw [if_pos hn] at he
   injection he with he
   subst he;obtain ⟨h1, h2, h3⟩ := List.mem_zipIdx hy;exact ⟨rfl, by rw [← hn, h3]; exact List.getElem_mem _⟩
 rw [if_neg hn] at he; cases he
theorem a3p {name : Int} {f : Nat → Int × Int} {x : (Int × Int) × Int} : ∀ {l : List Nd} {i : Nat}, x ∈ a0W name f l i → ∃ (k : Nat) (hk : k < l.length), x.1 = f (i + k) ∧ name ∈ l[k].ins
 | [], _, h => by simp [a0W] at h
 | n :: l, i, h => by
  unfold a0W at h
  rcases List.mem_append.1 h with h | h
  · exact ⟨0, by simp, b44 h⟩
  · obtain ⟨k, hk, h1, h2⟩ := a3p h
    exact ⟨k + 1, by simpa using hk, by rw [h1]; congr 1; omega, h2⟩
theorem b45 {name lp : Int} {x : (Int × Int) × Int} {b : List Nd} (h : x ∈ ouN name lp b) : ∃ (k : Nat) (hk : k < b.length), x.1 = (lp, (k : Int)) ∧ name ∈ outs b := by
 unfold ouN at h;obtain ⟨y, hy, he⟩ := List.mem_filterMap.1 h
 by_cases hn : y.1.op = 11 ∧ y.1.a = name
 · rw [if_pos hn] at he
   injection he with he
   subst he;obtain ⟨h1, h2⟩ := List.mem_zipIdx' hy;refine ⟨y.2, h1, rfl, ?_⟩;unfold outs;exact List.mem_map.2 ⟨y.1, List.mem_filter.2 ⟨h2 ▸ List.getElem_mem _, by simpa using hn.1⟩, hn.2⟩
 rw [if_neg hn] at he; cases he
theorem b46 {g : G} {p : Pl} : a1B ((gNd g p).getD default) ≤ 100 := by
 obtain ⟨l, out⟩ := g;unfold gNd a1B
 by_cases hok : gOk (l, out) = true
 · rw [if_pos hok]
   have hk := b0f hok
   cases hn : nodeAt l p with
   | none => decide
   | some n =>
   have hf := (a7f hok).1;obtain ⟨i, hi, -, h2⟩ := a2h hn
   rcases h2 with ⟨-, rfl⟩ | ⟨j, hj, -, rfl⟩
   · have := (hf.2 _ (List.getElem_mem hi)).1.2.2.2.2.1
     rw [Option.getD_some]; split <;> omega
   have := (((hf.2 _ (List.getElem_mem hi)).2).2 _ (List.getElem_mem hj)).1.2.2.2.2.1;rw [Option.getD_some]; split <;> omega
 rw [if_neg hok]; decide
end Go.Ox.Gr
namespace Go.Proofs.YtdkejfjcchlnpaaGreat
open Go.RowKit Go.Ox Go.Ox.Gr
end Go.Proofs.YtdkejfjcchlnpaaGreat
