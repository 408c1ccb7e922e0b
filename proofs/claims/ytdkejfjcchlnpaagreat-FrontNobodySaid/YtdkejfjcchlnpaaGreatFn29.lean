/-
  GrGetLaw, GrLawMath, GrAll, packed: what the claim needs of them.
-/
import Derived.Test.YtdkejfjcchlnpaaGreatFn28
import Derived.Test.YtdkejfjcchlnpaaGreatFn25
set_option maxHeartbeats 40000000
open Go.Lib (hid)
set_option linter.unusedSimpArgs false
set_option linter.unusedVariables false
set_option maxRecDepth 100000
namespace Go.Ox.Gr
open Go.Ox.Num (St a0l a2f)
attribute [local irreducible] Num.a0l
theorem a4k (s : St) : ∀ j, rdS s (j + 1) = rdS (a0l s).1 j
 | 0 => rfl
 | j + 1 => by rw [rdS, a4k s j]; rfl
theorem a6B (s : St) : ∀ j, rdL s (j + 1) = ((a0l s).2 : Int) :: rdL (a0l s).1 j
 | 0 => rfl
 | j + 1 => by rw [rdL, a6B s j, a4k s j]; rfl
def Fit : Nat → List Nd → Prop
 | 0, l => l = []
 | d + 1, l => l.length ≤ 32 ∧ ∀ n ∈ l, (okI n.op ∧ okI n.kind ∧ okI n.fa ∧ okI n.a ∧ n.ins.length ≤ 2 ∧ ∀ x ∈ n.ins, okI x) ∧ Fit d n.body
theorem Fit.put : ∀ {d : Nat} {l : List Nd}, Fit d l → b2R d l
 | 0, _, h => h
 | d + 1, l, h => ⟨by have := h.1; omega, fun n hn => ⟨by obtain ⟨a, b, c, e, f, g⟩ := (h.2 n hn).1; exact ⟨a, b, c, e, by omega, g⟩, Fit.put (h.2 n hn).2⟩⟩
theorem b0d : ∀ (l : List Int) (r : List UInt8), (∀ x ∈ l, okI x) → rdS ⟨a0k l ++ r, false⟩ l.length = ⟨r, false⟩ ∧ rdL ⟨a0k l ++ r, false⟩ l.length = l
 | [], r, _ => ⟨rfl, rfl⟩
 | x :: l, r, h => by
  have hx := h x List.mem_cons_self;unfold okI at hx
  have h1 : a0l ⟨a0k (x :: l) ++ r, false⟩ = (⟨a0k l ++ r, false⟩, x.toNat) := by
   have : a0k (x :: l) ++ r = Num.put x.toNat ++ (a0k l ++ r) := by simp [a0k]
   rw [this, Num.a1V (by omega)]
  obtain ⟨i1, i2⟩ := b0d l r fun y hy => h y (List.mem_cons_of_mem _ hy)
  rw [List.length_cons, a4k, a6B, h1];dsimp only;rw [i1, i2];exact ⟨rfl, by rw [Int.toNat_of_nonneg hx.1]⟩
theorem a7e {n : Nat} {m : Int} (hn : n < 9223372036854775808) (hm : (n : Int) ≤ m) (r : List UInt8) : a27 m ⟨⟨Num.put n ++ r, false⟩, false⟩ = (⟨⟨r, false⟩, false⟩, n) := by
 unfold a27;dsimp only;rw [Num.a1V hn, if_neg (by simp; omega)]
theorem b3W (x y : Int) : a0k [x, y] = Num.put x.toNat ++ Num.put y.toNat := by simp [a0k]
theorem b3X (x y z : Int) : a0k [x, y, z] = Num.put x.toNat ++ (Num.put y.toNat ++ Num.put z.toNat) := by simp [a0k]
theorem b2a {body : PS → PS × List Nd} {n : Nd} {bb : List UInt8} (h : okI n.op ∧ okI n.kind ∧ okI n.fa ∧ okI n.a ∧ n.ins.length ≤ 2 ∧ ∀ x ∈ n.ins, okI x) (r : List UInt8)
 (hb : body ⟨⟨bb ++ r, false⟩, false⟩ = (⟨⟨r, false⟩, false⟩, n.body)) : a1j body ⟨⟨(a4I n ++ bb) ++ r, false⟩, false⟩ = (⟨⟨r, false⟩, false⟩, n) := by
 obtain ⟨op, ins, kind, fa, a, bo⟩ := n;obtain ⟨h1, h2, h3, h4, h5, h6⟩ := h;dsimp only [Nd.op, Nd.ins, Nd.kind, Nd.fa, Nd.a, Nd.body] at *;unfold okI at h1 h2 h3 h4
 have e0 : (a4I (.mk op ins kind fa a bo) ++ bb) ++ r = Num.put op.toNat ++ (Num.put ins.length ++ (a0k ins ++ (Num.put kind.toNat ++ (Num.put fa.toNat ++ (Num.put a.toNat ++ (bb ++ r)))))) := by
  unfold a4I;dsimp only [Nd.op, Nd.ins, Nd.kind, Nd.fa, Nd.a];rw [b3W, b3X, Int.toNat_natCast];simp only [List.append_assoc]
 rw [e0];unfold a1j;dsimp only;rw [Num.a1V (by omega)]
 dsimp only;rw [a7e (by omega) (by omega)]
 dsimp only;rw [(b0d ins _ h6).1, (b0d ins _ h6).2];rw [Num.a1V (by omega)]
 dsimp only;rw [Num.a1V (by omega)]
 dsimp only;rw [Num.a1V (by omega)]
 dsimp only;rw [hb];dsimp only;rw [Int.toNat_of_nonneg h1.1, Int.toNat_of_nonneg h2.1, Int.toNat_of_nonneg h3.1, Int.toNat_of_nonneg h4.1]
theorem b0e {f : PS → PS × Nd} (g : Nd → List UInt8) : ∀ (l : List Nd) (r : List UInt8), (∀ n ∈ l, ∀ r, f ⟨⟨g n ++ r, false⟩, false⟩ = (⟨⟨r, false⟩, false⟩, n)) →
 itr f l.length ⟨⟨l.flatMap g ++ r, false⟩, false⟩ = (⟨⟨r, false⟩, false⟩, l)
 | [], r, _ => rfl
 | n :: l, r, h => by
  rw [List.length_cons, b2S (by simp)]
  have e : (n :: l).flatMap g ++ r = g n ++ (l.flatMap g ++ r) := by simp
  rw [e, h n List.mem_cons_self, b0e g l r fun m hm => h m (List.mem_cons_of_mem _ hm)]
theorem a6C : ∀ (d : Nat) (l : List Nd) (r : List UInt8), Fit d l → a0b d ⟨⟨a38 d l ++ r, false⟩, false⟩ = (⟨⟨r, false⟩, false⟩, l)
 | 0, l, r, h => by
  obtain rfl : l = [] := h
  show ((a27 0 ⟨⟨Num.put 0 ++ r, false⟩, false⟩).1, []) = _;rw [a7e (by omega) (by omega)]
 | d + 1, l, r, h => by
  have h1 := h.1
  show itr (a1j (a0b d)) (a27 32 ⟨⟨(Num.put l.length ++ _) ++ r, false⟩, false⟩).2 (a27 32 ⟨⟨(Num.put l.length ++ _) ++ r, false⟩, false⟩).1 = _;rw [List.append_assoc, a7e (by omega) (by omega)]
  exact b0e _ l r fun n hn r => b2a (h.2 n hn).1 r (a6C d n.body r (h.2 n hn).2)
theorem b3Y {g : G} (hf : Fit 2 g.1) (ho : okI g.2) (hok : gOk g = true) : b3N (grL g) = (g, true) := by
 obtain ⟨l, out⟩ := g;unfold okI at ho;dsimp only at *;have h1 : grL (l, out) = a38 2 l ++ (Num.put out.toNat ++ []) := by unfold grL; simp
 unfold b3N;rw [h1, a6C 2 l _ hf];dsimp only;rw [Num.a1V (by omega)]
 dsimp only;rw [Int.toNat_of_nonneg ho.1, hok];rfl
end Go.Ox.Gr
namespace Go.Ox.Gr
theorem a0T {l : List Nd} {out : Int} (h : gOk (l, out) = true) : 1 ≤ l.length ∧ l.length ≤ 32 ∧ each a9v l 0 = true ∧ 0 ≤ out ∧ out < (l.length : Int) ∧ loops l ≤ 1 := by
 unfold gOk a2L at h;simp only [Bool.and_eq_true, decide_eq_true_eq] at h;exact ⟨h.1.1, h.1.2.1, h.1.2.2, h.2.1, h.2.2.1, h.2.2.2⟩
theorem a3k {n : Nd} {i : Nat} (h : base n i = true) : 1 ≤ n.op ∧ n.op ≤ 11 ∧ n.ins.length ≤ 2 ∧ ∀ x ∈ n.ins, 0 ≤ x ∧ x < (i : Int) := by
 refine ⟨?_, ?_, a5K h, ?_⟩
 all_goals
  unfold base b2K b1x at h;simp only [Bool.and_eq_true, decide_eq_true_eq, List.all_eq_true] at h
 · exact h.1.1
 · exact h.1.2
 exact h.2.2
theorem ok_fn {n : Nd} (h : b1m n = true) : okI n.kind ∧ okI n.fa := by
 unfold b1m at h;unfold okI
 split at h
 · simp only [Bool.and_eq_true, decide_eq_true_eq] at h
   omega
 rename_i hf
 simp only [decide_eq_true_eq] at h;unfold fam at h
 split at h
 · omega
 rename_i hr
 have hk : 1 ≤ n.kind ∧ n.kind ≤ 23 := by
  unfold fk at h
  repeat' split at h
  all_goals omega
 have h1 : 0 ≤ lst n.kind := by unfold lst; split <;> omega
 have h2 : mst n.kind ≤ 1048575 := by unfold mst; repeat' split <;> omega
 omega
theorem ok_num {n : Nd} {loop : Int} (h : a2z n loop = true) (hl : loop ≤ 1000) : okI n.a := by
 unfold a2z at h;unfold okI
 repeat' split at h
 all_goals
  simp only [Bool.and_eq_true, decide_eq_true_eq] at h;omega
theorem a1x {l : List Nd} {out : Int} (h : gOk (l, out) = true) {k : Nat} (hk : k < l.length) : base l[k] k = true ∧ b1m l[k] = true ∧ a2z l[k] (-1) = true ∧ ((l[k].op = 9 ∧ a2K l[k].body k = true) ∨ (l[k].op ≠ 9 ∧ l[k].body = [])) := by
 have h1 := a2N (a0T h).2.2.1 k hk;rw [Nat.zero_add] at h1;unfold a9v at h1;simp only [Bool.and_eq_true] at h1;refine ⟨h1.1, h1.2.1, h1.2.2.1, ?_⟩;have h2 := h1.2.2.2
 split at h2
 · rename_i q; exact .inl ⟨q, h2⟩
 rename_i q; exact .inr ⟨q, List.isEmpty_iff.1 h2⟩
theorem a4l {l : List Nd} {k : Nat} (h : a2K l k = true) : 1 ≤ l.length ∧ l.length ≤ 32 ∧ ∀ (j : Nat) (hj : j < l.length), base l[j] j = true ∧ b1m l[j] = true ∧ a2z l[j] (k : Int) = true ∧ l[j].body = [] := by
 unfold a2K at h;simp only [Bool.and_eq_true, decide_eq_true_eq] at h;refine ⟨h.1, h.2.1, fun j hj => ?_⟩
 have h3 := a2N h.2.2 j hj;rw [Nat.zero_add] at h3;unfold b4H at h3;simp only [Bool.and_eq_true] at h3;exact ⟨h3.1, h3.2.1, h3.2.2.1, List.isEmpty_iff.1 h3.2.2.2⟩
theorem ok_one {n : Nd} {i : Nat} {loop : Int} (hi : i ≤ 1000) (hl : loop ≤ 1000) (h1 : base n i = true) (h2 : b1m n = true) (h3 : a2z n loop = true) :
 okI n.op ∧ okI n.kind ∧ okI n.fa ∧ okI n.a ∧ n.ins.length ≤ 2 ∧ ∀ x ∈ n.ins, okI x := by
 obtain ⟨a1, a2, a3, a4⟩ := a3k h1;exact ⟨by unfold okI; omega, (ok_fn h2).1, (ok_fn h2).2, ok_num h3 hl, a3, fun x hx => by have := a4 x hx; unfold okI; omega⟩
theorem a7f {l : List Nd} {out : Int} (h : gOk (l, out) = true) : Fit 2 l ∧ okI out := by
 have hp := a0T h;refine ⟨⟨hp.2.1, fun n hn => ?_⟩, by unfold okI; omega⟩
 obtain ⟨k, hk, rfl⟩ := List.getElem_of_mem hn;obtain ⟨b1, b2, b3, b4⟩ := a1x h hk;refine ⟨ok_one (by omega) (by omega) b1 b2 b3, ?_⟩
 rcases b4 with ⟨h9, hb⟩ | ⟨h9, hb⟩
 · obtain ⟨c1, c2, c3⟩ := a4l hb
   refine ⟨c2, fun m hm => ?_⟩
   obtain ⟨j, hj, rfl⟩ := List.getElem_of_mem hm;obtain ⟨d1, d2, d3, d4⟩ := c3 j hj;exact ⟨ok_one (by omega) (by omega) d1 d2 d3, d4⟩
 rw [hb];exact ⟨by simp, fun m hm => by simp at hm⟩
theorem b0f {l : List Nd} {out : Int} (h : gOk (l, out) = true) : Lk l := by
 have hf := (a7f h).1;refine ⟨by have := hf.1; omega, fun n hn => ?_⟩
 have h2 := (hf.2 n hn).2;exact ⟨by have := h2.1; omega, by have := (hf.2 n hn).1.2.2.2.2.1; omega, fun m hm => by have := (h2.2 m hm).1.2.2.2.2.1; omega⟩
theorem a3l (n : Nd) (l : List Nd) : loops (n :: l) = (if n.op = 9 then 1 else 0) + loops l := by
 unfold loops
 by_cases h : n.op = 9 <;> simp [h, Nat.add_comm]
theorem a3m : ∀ {l : List Nd}, loops l = 0 → ∀ n ∈ l, n.op ≠ 9
 | n :: l, h, m, hm => by
  rw [a3l] at h
  rcases List.mem_cons.1 hm with rfl | hm
  · intro q; rw [if_pos q] at h; omega
  · exact a3m (by omega) m hm
def a0m {α : Type} (F : Nat → Nd → List α) : List Nd → Nat → List α
 | [], _ => []
 | n :: l, i => F i n ++ a0m F l (i + 1)
theorem a5i {α : Type} {F : Nat → Nd → List α} : ∀ {l : List Nd} {i : Nat}, (∀ i, ∀ n ∈ l, F i n = []) → a0m F l i = []
 | [], _, _ => rfl
 | n :: l, i, h => by
  unfold a0m;rw [h i n List.mem_cons_self, a5i fun i m hm => h i m (List.mem_cons_of_mem _ hm)]
  rfl
theorem a2R {α : Type} {F : Nat → Nd → List α} : ∀ {l : List Nd} {i : Nat}, loops l ≤ 1 → (∀ i, ∀ n ∈ l, n.op ≠ 9 → F i n = []) →
 a0m F l i = if 0 ≤ a0d l i then F (a0d l i).toNat (l[(a0d l i).toNat - i]?.getD default) else []
 | [], i, _, _ => rfl
 | n :: l, i, hl, h => by
  rw [a3l] at hl;unfold a0m
  by_cases h9 : n.op = 9
  · rw [if_pos h9] at hl
    rw [a5i (l := l) fun i m hm => h i m (List.mem_cons_of_mem _ hm) (a3m (by omega) m hm), a0P h9, if_pos (by omega)]
    simp
  · rw [if_neg h9] at hl
    rw [h i n List.mem_cons_self h9, a0K h9, List.nil_append, a2R (by omega) fun i m hm => h i m (List.mem_cons_of_mem _ hm)]
    rcases a14 l (i + 1) with q | ⟨q, _⟩
    · rw [q]; rfl
    · rw [if_pos (by omega), if_pos (by omega)]
      obtain ⟨j, hj⟩ : ∃ j, (a0d l (i + 1)).toNat - i = j + 1 := ⟨(a0d l (i + 1)).toNat - i - 1, by omega⟩
      rw [hj, List.getElem?_cons_succ, show (a0d l (i + 1)).toNat - (i + 1) = j by omega]
theorem a2S : ∀ {l : List Nd} {i k : Nat} (hk : k < l.length), loops l ≤ 1 → l[k].op = 9 → a0d l i = ((i + k : Nat) : Int)
 | n :: l, i, k, hk, hl, h9 => by
  rw [a3l] at hl
  cases k with
  | zero => exact a0P h9
  | succ k =>
   have hk2 : k < l.length := by simpa using hk
   have h9' : l[k].op = 9 := h9
   by_cases hn : n.op = 9
   · rw [if_pos hn] at hl
     exact absurd h9' (a3m (by omega) _ (List.getElem_mem hk2))
   · rw [if_neg hn] at hl
     rw [a0K hn, a2S hk2 (by omega) h9']
     omega
theorem a1X {l : List Nd} {k : Nat} (hk : k < l.length) (hl : loops l ≤ 1) (h9 : l[k].op = 9) : a04 l = (k : Int) := by
 unfold a04;rw [a2S hk hl h9, Nat.zero_add]
theorem a2T {α : Type} (f : Pl → List α) : ∀ (l : List Nd) (i : Nat), (a0c l i).flatMap f = a0m (fun i n => f ((i : Int), -1) ++ (List.range n.body.length).flatMap fun (k : Nat) => f ((i : Int), (k : Int))) l i
 | [], _ => rfl
 | n :: l, i => by
  unfold a0c a0m plN;rw [List.flatMap_append, a2T f l (i + 1), List.flatMap_cons, List.flatMap_map]
theorem a2U {α : Type} {F G : Nat → Nd → List α} : ∀ {l : List Nd} {i : Nat}, (∀ (k : Nat) (hk : k < l.length), F (i + k) l[k] = G (i + k) l[k]) → a0m F l i = a0m G l i
 | [], _, _ => rfl
 | n :: l, i, h => by
  unfold a0m;have h0 := h 0 (by simp)
  rw [Nat.add_zero] at h0;have h0 : F i n = G i n := h0
  have h1 : a0m F l (i + 1) = a0m G l (i + 1) := a2U fun k hk => by
   have := h (k + 1) (by simpa using hk)
   rw [show i + (k + 1) = i + 1 + k by omega] at this
   exact this
  rw [h0, h1]
theorem a1o {l : List Nd} {k : Nat} (hk : k < l.length) : nodeAt l ((k : Int), -1) = some l[k] := by
 unfold nodeAt;rw [if_pos (by simp)]
 simp [List.getElem?_eq_getElem hk]
theorem a1I {l : List Nd} {k j : Nat} (hk : k < l.length) (hj : j < l[k].body.length) : nodeAt l ((k : Int), (j : Int)) = some l[k].body[j] := by
 unfold nodeAt;rw [if_pos (by simp)]
 simp only [Int.toNat_natCast, List.getElem?_eq_getElem hk];rw [if_neg (by omega), if_pos (by omega), List.getElem?_eq_getElem hj]
theorem a4m (name : Int) (f : Nat → Pl) : ∀ (l : List Nd) (i : Nat), a0W name f l i = a0m (fun i n => nmN name (f i) n.ins) l i
 | [], _ => rfl
 | n :: l, i => by unfold a0W a0m; rw [a4m name f l (i + 1)]
theorem a3n {α : Type} (F : Nat → Nd → List α) : ∀ (l : List Nd) (f : Nat → List α) (i : Nat), (∀ (k : Nat) (hk : k < l.length), f k = F (i + k) l[k]) → (List.range l.length).flatMap f = a0m F l i
 | [], _, _, _ => rfl
 | n :: l, f, i, h => by
  rw [List.length_cons, List.range_succ_eq_map, List.flatMap_cons, List.flatMap_map];unfold a0m;have h0 := h 0 (by simp)
  rw [Nat.add_zero] at h0;have h0 : f 0 = F i n := h0
  have h1 : (List.range l.length).flatMap (fun k => f (k + 1)) = a0m F l (i + 1) := a3n F l (fun k => f (k + 1)) (i + 1) fun k hk => by
   have := h (k + 1) (by simpa using hk)
   rw [show i + (k + 1) = i + 1 + k by omega] at this
   exact this
  rw [h0];exact congrArg _ h1
theorem ouN_fm (name lp : Int) (body : List Nd) : ouN name lp body = a0m (fun k n => if n.op = 11 ∧ n.a = name then [((lp, (k : Int)), (0 : Int))] else []) body 0 := by
 unfold ouN
 suffices h : ∀ (b : List Nd) (i : Nat), (b.zipIdx i).filterMap (fun x => if x.1.op = 11 ∧ x.1.a = name then some ((lp, (x.2 : Int)), (0 : Int)) else none) = a0m (fun k n => if n.op = 11 ∧ n.a = name then [((lp, (k : Int)), (0 : Int))] else []) b i from h body 0
 intro b
 induction b with
 | nil => intro i; rfl
 | cons n b ih =>
 intro i;rw [List.zipIdx_cons, List.filterMap_cons];unfold a0m
 by_cases q : n.op = 11 ∧ n.a = name
 · simp only [if_pos q, ih]; rfl
 simp only [if_neg q, ih]; rfl
theorem b0g {l : List Nd} {out : Int} (h : gOk (l, out) = true) {k : Nat} (hk : k < l.length) : l[k].op ≠ 11 := by
 intro q;have := (a1x h hk).2.2.1;unfold a2z at this;rw [if_neg (by omega), if_neg (by omega), if_neg (by omega), if_pos q] at this
 simp at this
theorem a4n {l : List Nd} {out : Int} (h : gOk (l, out) = true) {n : Nd} (hn : n ∈ l) (h9 : n.op ≠ 9) : n.body = [] := by
 obtain ⟨k, hk, rfl⟩ := List.getElem_of_mem hn
 rcases (a1x h hk).2.2.2 with q | q
 · exact absurd q.1 h9
 exact q.2
theorem b2U {l : List Nd} {out : Int} (h : gOk (l, out) = true) (i : Int) : ru true i l = a5N l i := by
 unfold ru a5N
 congr 1
 · unfold ruP0 a0N a0A
   rw [a2T, a4m];refine a2U fun k hk => ?_
   rw [Nat.zero_add, a1o hk]
   have : ((List.range l[k].body.length).flatMap fun (j : Nat) => b20 true i ((nodeAt l ((k : Int), (j : Int))).getD default) ((k : Int), (j : Int))) = [] := by
    rw [List.flatMap_eq_nil_iff];intro j _;unfold b20;rw [if_neg];simp
   rw [this, List.append_nil];unfold b20;rw [if_pos (by simp)]
   rfl
 unfold ruP1 a0N;rw [a2T]
 have e : a0m (fun (i' : Nat) (n : Nd) => b3K true i ((nodeAt l ((i' : Int), -1)).getD default) ((i' : Int), -1) ++ (List.range n.body.length).flatMap fun (k : Nat) => b3K true i ((nodeAt l ((i' : Int), (k : Int))).getD default) ((i' : Int), (k : Int))) l 0 =
  a0m (fun (i' : Nat) (n : Nd) => ouN i (i' : Int) n.body) l 0 := by
  refine a2U fun k hk => ?_
  rw [Nat.zero_add, a1o hk]
  have e1 : b3K true i ((some l[k]).getD default) ((k : Int), -1) = [] := by
   unfold b3K;rw [if_pos rfl, Option.getD_some, if_neg (fun q => b0g h hk q.1)]
  rw [e1, List.nil_append, ouN_fm];refine a3n (fun (j : Nat) n => if n.op = 11 ∧ n.a = i then [(((k : Int), (j : Int)), (0 : Int))] else []) _ _ 0 fun j hj => ?_
  rw [a1I hk hj, Nat.zero_add];unfold b3K;rw [if_pos rfl, Option.getD_some]
 rw [e, a2R (a0T h).2.2.2.2.2 fun i' n hn h9 => by rw [a4n h hn h9]; rfl]
 unfold a04
 by_cases q : 0 ≤ a0d l 0
 · rw [if_pos q, if_pos q, Int.toNat_of_nonneg q, Nat.sub_zero]
 rw [if_neg q, if_neg q]
theorem ru_in {l : List Nd} {out : Int} (h : gOk (l, out) = true) {i j : Nat} (hi : i < l.length) (hj : j < l[i].body.length) : ru false (j : Int) l = a0A (j : Int) (fun k => ((i : Int), (k : Int))) l[i].body := by
 have h9 : l[i].op = 9 := by
  rcases (a1x h hi).2.2.2 with q | q
  · exact q.1
  rw [q.2] at hj; simp at hj
 have hl := a1X hi (a0T h).2.2.2.2.2 h9
 have e1 : ruP1 false (j : Int) l (a0N l) = [] := by
  unfold ruP1;rw [List.flatMap_eq_nil_iff];intro q _;unfold b3K;rw [if_neg (by simp)]
 unfold ru;rw [e1, List.append_nil];unfold ruP0 a0N;rw [a2T]
 have e : a0m (fun (i' : Nat) (n : Nd) => b20 false (j : Int) ((nodeAt l ((i' : Int), -1)).getD default) ((i' : Int), -1) ++ (List.range n.body.length).flatMap fun (k : Nat) => b20 false (j : Int) ((nodeAt l ((i' : Int), (k : Int))).getD default) ((i' : Int), (k : Int))) l 0 =
  a0m (fun (i' : Nat) (n : Nd) => a0A (j : Int) (fun k => ((i' : Int), (k : Int))) n.body) l 0 := by
  refine a2U fun k hk => ?_
  rw [Nat.zero_add]
  have e1 : b20 false (j : Int) ((nodeAt l ((k : Int), -1)).getD default) ((k : Int), -1) = [] := by
   unfold b20;rw [if_neg (by simp)]
  rw [e1, List.nil_append];unfold a0A;rw [a4m];refine a3n (fun (j' : Nat) n => nmN (j : Int) ((k : Int), (j' : Int)) n.ins) _ _ 0 fun j' hj' => ?_
  rw [a1I hk hj', Nat.zero_add];unfold b20;have : ¬ ((j' : Int) < 0) := by omega
  rw [if_pos (by simp [this])]
  rfl
 rw [e, a2R (a0T h).2.2.2.2.2 fun i' n hn h9 => by rw [a4n h hn h9]; rfl]
 unfold a04 at hl;rw [hl, if_pos (by omega), Nat.sub_zero, Int.toNat_natCast, List.getElem?_eq_getElem hi]
 rfl
theorem b3Z {n : Nd} (h : okI n.op ∧ okI n.kind ∧ okI n.fa ∧ okI n.a ∧ n.ins.length ≤ 2 ∧ ∀ x ∈ n.ins, okI x) : (a4I n).length ≤ 63 := by
 obtain ⟨h1, h2, h3, h4, h5, h6⟩ := h;have a1 := a1e [n.op, (n.ins.length : Int)] (by intro x hx; simp at hx; rcases hx with rfl | rfl; exact h1; omega)
 have a2 := a1e n.ins h6;have a3 := a1e [n.kind, n.fa, n.a] (by intro x hx; simp at hx; rcases hx with rfl | rfl | rfl; exact h2; exact h3; exact h4)
 unfold a4I;rw [List.length_append, List.length_append];simp only [List.length_cons, List.length_nil] at a1 a3;omega
theorem a7X {d C : Nat} {l : List Nd} (h : Fit (d + 1) l) (hb : ∀ l, Fit d l → (a38 d l).length ≤ C) : (a38 (d + 1) l).length ≤ 9 + 32 * (63 + C) := by
 have h0 := a1W (n := l.length) (by have := h.1; omega)
 have h1 := a5O (fun n => a4I n ++ a38 d n.body) (63 + C) l (fun n hn => by
  have a := b3Z (h.2 n hn).1;have b := hb _ (h.2 n hn).2
  rw [List.length_append]; omega)
 have h3 : l.length * (63 + C) ≤ 32 * (63 + C) := Nat.mul_le_mul_right _ h.1;unfold a38;rw [List.length_append];omega
theorem b40 {l : List Nd} {out : Int} (h : Fit 2 l) (ho : okI out) : (grL (l, out)).length ≤ 1000000 := by
 have h2 : (a38 2 l).length ≤ 9 + 32 * (63 + (9 + 32 * (63 + 9))) := a7X (C := 9 + 32 * (63 + 9)) h (fun l h1 => a7X (C := 9) h1 (fun l h0 => by
  obtain rfl : l = [] := h0
  exact a1W (by simp)))
 have h3 := a1W (n := out.toNat) (by have := ho.1; have := ho.2; omega)
 unfold grL;rw [List.length_append];dsimp only;omega
open Go.RowKit
def gPl (g : G) : List Pl := if gOk g = true then a0N g.1 else []
def gNd (g : G) (p : Pl) : Option Nd := if gOk g = true then nodeAt g.1 p else none
def gUs (g : G) (p : Pl) : List ((Int × Int) × Int) := if (gNd g p).isSome = true then (if p.2 < 0 then ru true p.1 g.1 else ru false p.2 g.1) else []
theorem a2h {l : List Nd} {p : Pl} {n : Nd} (h : nodeAt l p = some n) : ∃ (i : Nat) (hi : i < l.length), p.1 = (i : Int) ∧ ((p.2 = -1 ∧ n = l[i]) ∨ ∃ (j : Nat) (hj : j < l[i].body.length), p.2 = (j : Int) ∧ n = l[i].body[j]) := by
 unfold nodeAt at h
 by_cases h0 : 0 ≤ p.1
 · rw [if_pos h0] at h
   cases hn : l[p.1.toNat]? with
   | none => rw [hn] at h; cases h
   | some m =>
   rw [hn] at h;obtain ⟨hk, hkn⟩ := List.getElem?_eq_some_iff.1 hn;simp only at h;refine ⟨p.1.toNat, hk, by omega, ?_⟩
   by_cases h1 : p.2 = -1
   · rw [if_pos h1] at h
     injection h with h
     exact .inl ⟨h1, by rw [hkn, h]⟩
   rw [if_neg h1] at h
   by_cases h2 : 0 ≤ p.2
   · rw [if_pos h2] at h
     obtain ⟨hj, hjn⟩ := List.getElem?_eq_some_iff.1 h;subst hkn;exact .inr ⟨p.2.toNat, hj, by omega, hjn.symm⟩
   rw [if_neg h2] at h; cases h
 rw [if_neg h0] at h; cases h
theorem a7g {l : List Nd} {i j : Int} (h : nodeAt l (i, j) = none) : i < 0 ∨ (l.length : Int) ≤ i ∨ j < -1 ∨ ∃ (k : Nat) (hk : k < l.length), i = (k : Int) ∧ 0 ≤ j ∧ (l[k].body.length : Int) ≤ j := by
 by_cases h0 : 0 ≤ i
 · by_cases h1 : (l.length : Int) ≤ i
   · exact .inr (.inl h1)
   by_cases h2 : j < -1
   · exact .inr (.inr (.inl h2))
   obtain ⟨k, rfl⟩ : ∃ k : Nat, i = (k : Int) := ⟨i.toNat, by omega⟩
   have hk : k < l.length := by omega
   by_cases h3 : j = -1
   · subst h3
     rw [a1o hk] at h; cases h
   obtain ⟨m, rfl⟩ : ∃ m : Nat, j = (m : Int) := ⟨j.toNat, by omega⟩
   by_cases hm : m < l[k].body.length
   · rw [a1I hk hm] at h; cases h
   exact .inr (.inr (.inr ⟨k, hk, rfl, by omega, by omega⟩))
 exact .inl (by omega)
theorem a8R {g : G} {p : Pl} (h : gOk g = true) : (gNd g p).isSome = true ↔ p ∈ a0N g.1 := by
 unfold gNd;rw [if_pos h, a8t]
end Go.Ox.Gr
namespace Go.Proofs.YtdkejfjcchlnpaaGreat
open Go.RowKit Go.Ox Go.Ox.Gr
attribute [local irreducible] RE OE a00
theorem a7h (d : Nat) (v : Value) (l : List Nd) (out : Int) (w : World) (hv : a00 d w v l) (hok : gOk (l, out) = false) :
 Calls Tryz.prog 166 #[gAg v out] w fun e w' => e = .returned (.slice none 0 0) ∧ Ext w w' := by
 obtain ⟨A, c, rfl⟩ := hv.form;have HX0 := hid ((Ext.refl w).alloc (gCs (.slice A l.length c) out));have HB0 := hid (Blk.new w 24 #[.slice A l.length c, .int .i64 out]);have HC := hid (a0C d (.slice A l.length c) l out _ (hv.ext HX0.o));rw [show gE (l, out) = 170 from by unfold gE; rw [hok]; rfl] at HC
 clear hv hok
 go_enter Tryz.func166, Tryz.ntmps166
 go_upto_region 1 with fail
 generalize w.heap.size = p at *;generalize w.alloc (gCs (.slice A l.length c) out) = w0 at *;have y0 := HB0.o.c0;have y1 := HB0.o.c1
 go_wp2_with fail
 refine HC.o.mono ?_;rintro e w1 ⟨rfl, he1⟩
 go_wp2
 go_ret
 exact ⟨rfl, HX0.o.trans he1⟩
theorem a5R {l : List Nd} {out : Int} (h : gOk (l, out) = true) : l.length ≤ 100 ∧ ∀ n ∈ l, n.body.length ≤ 100 := ⟨(b0f h).1, fun n hn => ((b0f h).2 n hn).1⟩
theorem a7i (d : Nat) (v : Value) (g : G) (w : World) (hv : a00 d w v g.1) :
 Calls Tryz.prog 166 #[gAg v g.2] w fun e w' => ∃ u, e = .returned u ∧ RE w' u (gPl g) ∧ Ext w w' := by
 obtain ⟨l, out⟩ := g
 cases hok : gOk (l, out) with
 | true =>
  refine (a8A d v l out w hv (a5R hok).1 (a5R hok).2 hok).mono ?_;rintro e w' ⟨u, rfl, ho, he⟩;exact ⟨u, rfl, by unfold gPl; rw [if_pos hok]; exact ho.re, he⟩
 | false =>
 refine (a7h d v l out w hv hok).mono ?_;rintro e w' ⟨rfl, he⟩;exact ⟨_, rfl, by unfold gPl; rw [if_neg (by rw [hok]; simp)]; exact RE.a2F _, he⟩
theorem a7Y (d : Nat) (v : Value) (g : G) (p : Pl) (w : World) (hv : a00 d w v g.1) (hg : gNd g p = none) :
 Calls Tryz.prog 68 #[gAg v g.2, plV p] w fun e w' => e = .returned (.tuple #[nd0V, .bool false]) ∧ Ext w w' := by
 obtain ⟨l, out⟩ := g;obtain ⟨i, j⟩ := p
 cases hok : gOk (l, out) with
 | false => exact a11 d v l out i j w hv (.inl hok)
 | true =>
 unfold gNd at hg;rw [if_pos hok] at hg
 rcases a7g hg with q | q | q | ⟨k, hk, rfl, q1, q2⟩
 · exact a11 d v l out i j w hv (.inr ⟨hok, .inl q⟩)
 · by_cases q0 : i < 0
   · exact a11 d v l out i j w hv (.inr ⟨hok, .inl q0⟩)
   exact a11 d v l out i j w hv (.inr ⟨hok, .inr (.inl ⟨by omega, q⟩)⟩)
 · by_cases q0 : i < 0
   · exact a11 d v l out i j w hv (.inr ⟨hok, .inl q0⟩)
   by_cases q1 : (l.length : Int) ≤ i
   · exact a11 d v l out i j w hv (.inr ⟨hok, .inr (.inl ⟨by omega, q1⟩)⟩)
   exact a11 d v l out i j w hv (.inr ⟨hok, .inr (.inr ⟨by omega, by omega, q⟩)⟩)
 have hkn := List.getElem?_eq_getElem hk;generalize l[k] = n at *;obtain ⟨op, ins, kind, fa, a, body⟩ := n;exact b00 d v l out k j op kind fa a ins body w hv hok hkn ⟨q1, q2⟩
theorem a6D (d : Nat) (v : Value) (g : G) (p : Pl) (w : World) (hv : a00 d w v g.1) :
 Calls Tryz.prog 68 #[gAg v g.2, plV p] w fun e w' => ∃ u b, e = .returned (.tuple #[a1C ((gNd g p).getD default).op ((gNd g p).getD default).kind ((gNd g p).getD default).fa ((gNd g p).getD default).a u b, .bool (gNd g p).isSome]) ∧
  RE w' u ((gNd g p).getD default).ins ∧ a00 1 w' b ((gNd g p).getD default).body ∧ Ext w w' := by
 cases hn : gNd g p with
 | none =>
  refine (a7Y d v g p w hv hn).mono ?_;rintro e w' ⟨rfl, he⟩;exact ⟨.slice none 0 0, .slice none 0 0, rfl, RE.a2F _, a00.nil _ _, he⟩
 | some n =>
  obtain ⟨l, out⟩ := g;obtain ⟨i, j⟩ := p
  have hok : gOk (l, out) = true := by
   cases h : gOk (l, out) with
   | true => rfl
   | false => unfold gNd at hn; rw [if_neg (by rw [h]; simp)] at hn; cases hn
  have hn2 : nodeAt l (i, j) = some n := by unfold gNd at hn; rw [if_pos hok] at hn; exact hn
  obtain ⟨k, hk, h1, h2⟩ := a2h hn2;simp only at h1 h2;subst h1;have hkn := List.getElem?_eq_getElem hk
  rcases h2 with ⟨rfl, rfl⟩ | ⟨m, hm, rfl, rfl⟩
  · generalize l[k] = n at *
    obtain ⟨op, ins, kind, fa, a, body⟩ := n;exact a6s d v l out k op kind fa a ins body w hv hok hkn
  · have hb : l[k].body[m].body = [] := ((a4d hok (List.getElem_mem hk)).2.2 _ (List.getElem_mem hm)).1
    have hmn := List.getElem?_eq_getElem hm;generalize l[k].body[m] = x at *;generalize l[k] = n at *;obtain ⟨op, ins, kind, fa, a, body⟩ := n;obtain ⟨mop, mins, mkind, mfa, ma, mbody⟩ := x;refine (a7R d v l out k m op kind fa a ins body w hv hok hkn mop mkind mfa ma mins mbody hmn).mono ?_;rintro e w' ⟨u, rfl, hu, he⟩;obtain rfl : mbody = [] := hb;exact ⟨u, .slice none 0 0, rfl, hu, a00.nil _ _, he⟩
theorem a8S (d : Nat) (v : Value) (g : G) (p : Pl) (w : World) (hv : a00 d w v g.1) :
 Calls Tryz.prog 167 #[gAg v g.2, plV p] w fun e w' => ∃ u, e = .returned u ∧ OE 210 w.heap.size w' u (gUs g p) ∧ Ext w w' := by
 cases hn : gNd g p with
 | none =>
  have hu : gUs g p = [] := by unfold gUs; rw [hn]; rfl
  obtain ⟨l, out⟩ := g;obtain ⟨i, j⟩ := p;refine (a74 d v l out i j w hv fun W hW => a7Y d v (l, out) (i, j) W (hv.ext hW) hn).mono ?_
  rintro e w' ⟨rfl, he⟩;exact ⟨_, rfl, by rw [hu]; exact OE.a2F _ _ _, he⟩
 | some n =>
 obtain ⟨l, out⟩ := g;obtain ⟨i, j⟩ := p
 have hok : gOk (l, out) = true := by
  cases h : gOk (l, out) with
  | true => rfl
  | false => unfold gNd at hn; rw [if_neg (by rw [h]; simp)] at hn; cases hn
 have hn2 : nodeAt l (i, j) = some n := by unfold gNd at hn; rw [if_pos hok] at hn; exact hn
 have hu : gUs (l, out) (i, j) = if j < 0 then ru true i l else ru false j l := by unfold gUs; rw [hn]; rfl
 rw [hu];obtain ⟨k, hk, h1, h2⟩ := a2h hn2;simp only at h1 h2;subst h1;have hkn := List.getElem?_eq_getElem hk
 rcases h2 with ⟨rfl, rfl⟩ | ⟨m, hm, rfl, rfl⟩
 · rw [if_pos (by omega), b2U hok]
   generalize l[k] = n at *;obtain ⟨op, ins, kind, fa, a, body⟩ := n;exact a8J d v l out k op kind fa a ins body w hv hok hkn
 rw [if_neg (by omega), ru_in hok hk hm]
 have hmn := List.getElem?_eq_getElem hm;generalize l[k].body[m] = x at *;generalize l[k] = n at *;obtain ⟨op, ins, kind, fa, a, body⟩ := n;obtain ⟨mop, mins, mkind, mfa, ma, mbody⟩ := x;exact b01 d v l out k m op kind fa a ins body mop mkind mfa ma mins mbody w hv hok hkn hmn
end Go.Proofs.YtdkejfjcchlnpaaGreat
