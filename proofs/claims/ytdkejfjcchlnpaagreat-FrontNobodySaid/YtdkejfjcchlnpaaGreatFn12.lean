/-
  GrMath, Gr, GrFn, packed: what the claim needs of them.
-/
import Derived.Test.YtdkejfjcchlnpaaGreatFn11
set_option maxHeartbeats 40000000
open Go.Lib (hid)
set_option linter.unusedSimpArgs false
set_option linter.unusedVariables false
set_option maxRecDepth 100000
namespace Go.Ox.Gr
inductive Nd
 | mk (op : Int) (ins : List Int) (kind fa a : Int) (body : List Nd)
def Nd.op : Nd → Int | .mk o _ _ _ _ _ => o
def Nd.ins : Nd → List Int | .mk _ i _ _ _ _ => i
def Nd.kind : Nd → Int | .mk _ _ k _ _ _ => k
def Nd.fa : Nd → Int | .mk _ _ _ f _ _ => f
def Nd.a : Nd → Int | .mk _ _ _ _ a _ => a
def Nd.body : Nd → List Nd | .mk _ _ _ _ _ b => b
instance : Inhabited Nd := ⟨.mk 0 [] 0 0 0 []⟩
def fk (k : Int) : Int := if k < 1 then 0 else if k ≤ 8 then 1 else if k ≤ 12 then 2 else if k ≤ 15 then 3 else if k ≤ 19 then 4 else if k ≤ 23 then 5 else 0
def lst (k : Int) : Int := if k = 4 ∨ k = 5 ∨ k = 6 then 1 else 0
def mst (k : Int) : Int := if k = 1 ∨ k = 2 ∨ k = 4 ∨ k = 5 ∨ k = 6 ∨ k = 7 ∨ k = 8 ∨ k = 9 ∨ k = 10 ∨ k = 11 then 1048575 else if k = 13 ∨ k = 14 then 8 else 0
def fam (k a : Int) : Int := if a < lst k ∨ mst k < a then 0 else fk k
def arity (op : Int) : Int := if op = 2 ∨ op = 3 ∨ op = 4 ∨ op = 5 ∨ op = 7 ∨ op = 9 then 1 else if op = 6 ∨ op = 8 then 2 else 0
def b1l (op : Int) : Int := if op = 2 then 1 else if op = 3 then 2 else if op = 4 then 3 else if op = 5 then 4 else if op = 6 then 5 else 0
def b2K (op : Int) : Bool := decide (1 ≤ op) && decide (op ≤ 11)
def b1x (ins : List Int) (i : Nat) : Bool := ins.all fun x => decide (0 ≤ x) && decide (x < (i : Int))
def b1m (n : Nd) : Bool := if b1l n.op = 0 then decide (n.kind = 0) && decide (n.fa = 0) else decide (fam n.kind n.fa = b1l n.op)
def a2z (n : Nd) (loop : Int) : Bool :=
 if n.op = 1 then decide (loop < 0) && (decide (0 ≤ n.a) && decide (n.a < 4))
 else if n.op = 9 then decide (loop < 0) && (decide (1 ≤ n.a) && decide (n.a ≤ 64))
 else if n.op = 10 then decide (0 ≤ loop) && decide (n.a = 0)
 else if n.op = 11 then decide (0 ≤ loop) && (decide (0 ≤ n.a) && decide (n.a < loop))
 else decide (n.a = 0)
def base (n : Nd) (i : Nat) : Bool := b2K n.op && (decide ((n.ins.length : Int) = arity n.op) && b1x n.ins i)
def each (f : Nd → Nat → Bool) : List Nd → Nat → Bool
 | [], _ => true
 | n :: l, i => f n i && each f l (i + 1)
theorem a5E (f : Nd → Nat → Bool) : ∀ (l r : List Nd) (i : Nat), each f (l ++ r) i = (each f l i && each f r (i + l.length))
 | [], r, i => by simp [each]
 | n :: l, r, i => by
  simp only [List.cons_append, each, a5E f l r (i + 1), List.length_cons, Bool.and_assoc];rw [show i + 1 + l.length = i + (l.length + 1) by omega]
theorem b2L (f : Nd → Nat → Bool) (l : List Nd) {k : Nat} (h : k < l.length) : each f (l.take (k + 1)) 0 = (each f (l.take k) 0 && f l[k] k) := by
 rw [List.take_succ_eq_append_getElem h, a5E];have : (l.take k).length = k := by rw [List.length_take]; omega
 rw [this, Nat.zero_add];simp [each]
theorem b3m (f : Nd → Nat → Bool) (l : List Nd) {k : Nat} (h : k < l.length) (hf : f l[k] k = false) : each f l 0 = false := by
 have e : l = l.take (k + 1) ++ l.drop (k + 1) := (List.take_append_drop ..).symm;have h2 := b2L f l h;rw [hf, Bool.and_false] at h2;rw [e, a5E, h2, Bool.false_and]
def b4H (loop : Nat) (n : Nd) (i : Nat) : Bool := base n i && (b1m n && (a2z n loop && n.body.isEmpty))
def a2K (l : List Nd) (loop : Nat) : Bool := decide (1 ≤ l.length) && (decide (l.length ≤ 32) && each (b4H loop) l 0)
def a9v (n : Nd) (i : Nat) : Bool := base n i && (b1m n && (a2z n (-1) && (if n.op = 9 then a2K n.body i else n.body.isEmpty)))
def a2L (l : List Nd) : Bool := decide (1 ≤ l.length) && (decide (l.length ≤ 32) && each a9v l 0)
def loops (l : List Nd) : Nat := (l.filter fun n => decide (n.op = 9)).length
theorem b3n (l : List Nd) {k : Nat} (h : k < l.length) : loops (l.take (k + 1)) = loops (l.take k) + (if l[k].op = 9 then 1 else 0) := by
 unfold loops;rw [List.take_succ_eq_append_getElem h, List.filter_append, List.length_append]
 congr 1
 by_cases q : l[k].op = 9 <;> simp [q]
theorem b1y (l : List Nd) (k : Nat) : loops (l.take k) ≤ k := Nat.le_trans (List.length_filter_le _ _) (by rw [List.length_take]; omega)
abbrev G := List Nd × Int
def gOk (g : G) : Bool := a2L g.1 && (decide (0 ≤ g.2) && (decide (g.2 < (g.1.length : Int)) && decide (loops g.1 ≤ 1)))
theorem a4b (k : Int) : 0 ≤ arity k ∧ arity k ≤ 2 := by unfold arity; repeat' split <;> omega
def a0d : List Nd → Nat → Int
 | [], _ => -1
 | n :: l, i => if n.op = 9 then (i : Int) else a0d l (i + 1)
def a04 (l : List Nd) : Int := a0d l 0
theorem a0P {n : Nd} {l : List Nd} {i : Nat} (h : n.op = 9) : a0d (n :: l) i = (i : Int) := if_pos h
theorem a0K {n : Nd} {l : List Nd} {i : Nat} (h : ¬ n.op = 9) : a0d (n :: l) i = a0d l (i + 1) := if_neg h
theorem a2d : ∀ (l r : List Nd) (i : Nat), a0d (l ++ r) i = if a0d l i = -1 then a0d r (i + l.length) else a0d l i
 | [], r, i => by rw [if_pos (show a0d [] i = -1 from rfl)]; rfl
 | n :: l, r, i => by
  rw [List.cons_append, List.length_cons]
  by_cases h : n.op = 9
  · rw [a0P h, a0P h, if_neg (by omega)]
  · rw [a0K h, a0K h, a2d l r (i + 1), show i + 1 + l.length = i + (l.length + 1) by omega]
theorem a7K (l : List Nd) {k : Nat} (h : k < l.length) (hn : a04 (l.take k) = -1) : a04 (l.take (k + 1)) = if l[k].op = 9 then (k : Int) else -1 := by
 unfold a04 at *;rw [List.take_succ_eq_append_getElem h, a2d, if_pos hn, List.length_take, Nat.zero_add, Nat.min_eq_left (by omega)]
 rfl
theorem a8s (l : List Nd) {k : Nat} (h : k < l.length) (hn : a04 (l.take k) = -1) (h9 : l[k].op = 9) : a04 l = (k : Int) := by
 have h2 := a7K l h hn;rw [if_pos h9] at h2;unfold a04 at *;rw [← List.take_append_drop (k + 1) l, a2d, h2, if_neg (by omega)]
theorem a14 : ∀ (l : List Nd) (i : Nat), a0d l i = -1 ∨ ((i : Int) ≤ a0d l i ∧ a0d l i < (i : Int) + (l.length : Int))
 | [], i => .inl rfl
 | n :: l, i => by
  by_cases h : n.op = 9
  · rw [a0P h]; exact .inr ⟨Int.le_refl _, by rw [List.length_cons]; omega⟩
  · rw [a0K h]
    rcases a14 l (i + 1) with q | q
    · exact .inl q
    · refine .inr ⟨by omega, ?_⟩
      rw [List.length_cons]; omega
theorem a1c (l : List Nd) : a04 l = -1 ∨ (0 ≤ a04 l ∧ a04 l < (l.length : Int)) := by
 have := a14 l 0;unfold a04;simpa using this
abbrev Pl := Int × Int
def plN (i n : Nat) : List Pl := ((i : Int), -1) :: (List.range n).map fun (k : Nat) => ((i : Int), (k : Int))
theorem plN_s (i n : Nat) : plN i (n + 1) = plN i n ++ [((i : Int), (n : Int))] := by
 unfold plN;rw [List.range_succ, List.map_append];rfl
theorem a9w (i n : Nat) : (plN i n).length = n + 1 := by unfold plN; simp
def a0c : List Nd → Nat → List Pl
 | [], _ => []
 | n :: l, i => plN i n.body.length ++ a0c l (i + 1)
def a0N (l : List Nd) : List Pl := a0c l 0
theorem a4X : ∀ (l r : List Nd) (i : Nat), a0c (l ++ r) i = a0c l i ++ a0c r (i + l.length)
 | [], r, i => by simp [a0c]
 | n :: l, r, i => by
  simp only [List.cons_append, a0c, List.length_cons, a4X l r (i + 1), List.append_assoc];rw [show i + 1 + l.length = i + (l.length + 1) by omega]
theorem b1z (l : List Nd) {k : Nat} (h : k < l.length) : a0N (l.take (k + 1)) = a0N (l.take k) ++ plN k l[k].body.length := by
 unfold a0N;rw [List.take_succ_eq_append_getElem h, a4X, List.length_take, Nat.min_eq_left (by omega), Nat.zero_add]
 simp [a0c]
theorem a0q {p : Pl} : ∀ {l : List Nd} {i : Nat}, p ∈ a0c l i ↔ ∃ (k : Nat) (h : k < l.length), p.1 = ((i + k : Nat) : Int) ∧ (p.2 = -1 ∨ (0 ≤ p.2 ∧ p.2 < (l[k].body.length : Int)))
 | [], i => by simp [a0c]
 | n :: l, i => by
  unfold a0c;rw [List.mem_append, a0q (l := l) (i := i + 1)];constructor
  · rintro (h | ⟨k, hk, h1, h2⟩)
    · refine ⟨0, by simp, ?_⟩
      unfold plN at h;rw [List.mem_cons, List.mem_map] at h
      rcases h with rfl | ⟨j, hj, rfl⟩
      · exact ⟨by simp, .inl rfl⟩
      · have := List.mem_range.1 hj
        exact ⟨by simp, .inr ⟨by simp, by simp; exact this⟩⟩
    · exact ⟨k + 1, by simp; exact hk, by rw [h1]; congr 1; omega, by simpa using h2⟩
  · rintro ⟨k, hk, h1, h2⟩
    cases k with
    | zero =>
     refine .inl ?_;unfold plN;rw [List.mem_cons, List.mem_map];obtain ⟨p1, p2⟩ := p;simp at h1 h2
     rcases h2 with h2 | ⟨h2, h3⟩
     · exact .inl (by rw [h1, h2])
     · refine .inr ⟨p2.toNat, List.mem_range.2 (by omega), ?_⟩
       rw [h1];exact Prod.ext rfl (by simp; omega)
    | succ k =>
     refine .inr ⟨k, by simpa using hk, by rw [h1]; congr 1; omega, by simpa using h2⟩
def nodeAt (l : List Nd) (p : Pl) : Option Nd :=
 if 0 ≤ p.1 then
  match l[p.1.toNat]? with
  | none => none
  | some n => if p.2 = -1 then some n else if 0 ≤ p.2 then n.body[p.2.toNat]? else none
 else none
theorem a8t {l : List Nd} {p : Pl} : p ∈ a0N l ↔ (nodeAt l p).isSome = true := by
 unfold a0N;rw [a0q];unfold nodeAt;constructor
 · rintro ⟨k, hk, h1, h2⟩
   rw [Nat.zero_add] at h1;rw [if_pos (by omega), show p.1.toNat = k by omega, List.getElem?_eq_getElem hk]
   rcases h2 with h2 | ⟨h2, h3⟩
   · simp [h2]
   simp only;rw [if_neg (by omega), if_pos h2, List.getElem?_eq_getElem (by omega)]; rfl
 intro h
 by_cases h0 : 0 ≤ p.1
 · rw [if_pos h0] at h
   cases hn : l[p.1.toNat]? with
   | none => rw [hn] at h; cases h
   | some n =>
   rw [hn] at h;obtain ⟨hk, hkn⟩ := List.getElem?_eq_some_iff.1 hn;refine ⟨p.1.toNat, hk, by omega, ?_⟩
   rw [hkn];simp only at h
   by_cases h1 : p.2 = -1
   · exact .inl h1
   rw [if_neg h1] at h
   by_cases h2 : 0 ≤ p.2
   · rw [if_pos h2] at h
     obtain ⟨x, hx⟩ := Option.isSome_iff_exists.1 h;obtain ⟨hj, _⟩ := List.getElem?_eq_some_iff.1 hx;exact .inr ⟨h2, by omega⟩
   rw [if_neg h2] at h; cases h
 rw [if_neg h0] at h; cases h
end Go.Ox.Gr
namespace Go.Ox
open Go.RowKit
instance encInt : Enc Int where
 k := 1
 enc x := [.int .i64 x]
 len _ := rfl
 pos := by omega
 one x u hu := by simp at hu; subst hu; rfl
theorem ri1 {w : World} {A : Option Addr} {n c : Nat} {l : List Int} (h : RE w (.slice A n c) l) {k : Nat} (hk : k < l.length) :
 ∃ b o, A = some ⟨b, o, none⟩ ∧ w.cell? ⟨b, o + k, none⟩ = some (.int .i64 l[k]) := by
 obtain ⟨b, o, e, h2⟩ := h.at_ hk;have := h2 0 _ rfl;refine ⟨b, o, e, ?_⟩;rw [← this]
 congr 2
 show o + k = o + k * 1 + 0;omega
namespace Gr
def NdQ (NR : World → Value → List Nd → Prop) (w : World) (r : List Value) (n : Nd) : Prop :=
 ∃ u b, r = [.int .i64 n.op, u, .int .i64 n.kind, .int .i64 n.fa, .int .i64 n.a, b] ∧ RE w u n.ins ∧ NR w b n.body
def a00 : Nat → World → Value → List Nd → Prop
 | 0 => RS 6 fun _ _ _ => False
 | d + 1 => RS 6 (NdQ (a00 d))
section
variable {w w' : World} {v : Value} {l : List Nd} {d : Nat}
theorem a00.ext : ∀ {d : Nat} {v : Value} {l : List Nd}, a00 d w v l → Ext w w' → a00 d w' v l
 | 0, v, l, h, he => RS.ext h (fun _ _ _ q => q) he
 | d + 1, v, l, h, he => RS.ext h (fun r x _ ⟨u, b, h1, h2, h3⟩ => ⟨u, b, h1, RE.ext h2 he, a00.ext h3 he⟩) he
theorem a00.form : ∀ {d : Nat} {v : Value} {l : List Nd}, a00 d w v l → ∃ A c, v = .slice A l.length c
 | 0, _, _, h => RS.form h
 | _ + 1, _, _, h => RS.form h
theorem a00.nil (d : Nat) (w : World) : a00 d w (.slice none 0 0) [] := by
 cases d with
 | zero => exact RS.nil _ _ _
 | succ d => exact RS.nil _ _ _
theorem a00.zero (h : a00 0 w v l) : l = [] := by
 obtain ⟨rows, h1, h2, h3⟩ := RS.ex h
 cases l with
 | nil => rfl
 | cons x l =>
 obtain ⟨r, hr⟩ : ∃ r, rows[0]? = some r := ⟨rows[0]'(by rw [h2]; simp), List.getElem?_eq_getElem (by rw [h2]; simp)⟩
 exact (h3 0 r x hr rfl).2.elim
theorem a00.at_ {A : Option Addr} {n c : Nat} (h : a00 d w (.slice A n c) l) {i : Nat} (hi : i < l.length) :
 ∃ b o u bv, A = some ⟨b, o, none⟩ ∧ w.cell? ⟨b, o + i * 6, none⟩ = some (.int .i64 l[i].op) ∧ w.cell? ⟨b, o + i * 6 + 1, none⟩ = some u ∧ w.cell? ⟨b, o + i * 6 + 2, none⟩ = some (.int .i64 l[i].kind) ∧
  w.cell? ⟨b, o + i * 6 + 3, none⟩ = some (.int .i64 l[i].fa) ∧ w.cell? ⟨b, o + i * 6 + 4, none⟩ = some (.int .i64 l[i].a) ∧ w.cell? ⟨b, o + i * 6 + 5, none⟩ = some bv ∧ RE w u l[i].ins ∧ a00 (d - 1) w bv l[i].body := by
 cases d with
 | zero =>
  have := a00.zero h;subst this;simp at hi
 | succ d =>
  obtain ⟨b, o, r, hA, hr, ⟨u, bv, h1, h2, h3⟩, hc⟩ := RS.at_ h (by omega) hi
  subst h1;exact ⟨b, o, u, bv, hA, hc 0 _ rfl, hc 1 _ rfl, hc 2 _ rfl, hc 3 _ rfl, hc 4 _ rfl, hc 5 _ rfl, h2, h3⟩
end
theorem a00.a9x {w : World} {v : Value} {l : List Nd} {d : Nat} (h : RS 6 (NdQ (a00 d)) w v l) : a00 (d + 1) w v l := h
end Gr
end Go.Ox
namespace Go.Proofs.YtdkejfjcchlnpaaGreat
open Go.RowKit Go.Ox Go.Ox.Gr
abbrev fnV (k a : Int) : Value := .agg #[.int .i64 k, .int .i64 a]
theorem eqInF (a b c d : Int) (w : World) : (Op.equalIn 10000 99 (fnV a b) (fnV c d)).run Tryz.prog w = .ok ((a == c) && (b == d)) w := by
 have u3 := Tryz.underlying3;have a3 := Tryz.isAgg3;have z3 := Tryz.sizeOf3;have hS : Tryz.prog.underlying 99 = some (.struct (Tryz.prog.fieldsOf 99)) := by kernel_rfl
 have hp : Tryz.prog.stoodInHeld 99 = false := by kernel_rfl
 rw [show (10000 : Nat) = 9999 + 1 from rfl, run_equalIn_agg w 9999 99 _ _ hS hp];simp only [Program.fieldsOf, Tryz.underlying99];go_simp
 by_cases h1 : a = c <;> by_cases h2 : b = d <;> simp [h1, h2]
theorem eqF (a b c d : Int) (w : World) : (binOp .eql 99 (fnV a b) (fnV c d)).run Tryz.prog w = .ok (.bool ((a == c) && (b == d))) w := by
 rw [run_eql_struct, eqInF]; rfl
theorem kinds (k : Int) : k = 1 ∨ k = 2 ∨ k = 3 ∨ k = 4 ∨ k = 5 ∨ k = 6 ∨ k = 7 ∨ k = 8 ∨ k = 9 ∨ k = 10 ∨ k = 11 ∨ k = 12 ∨ k = 13 ∨ k = 14 ∨ k = 15 ∨ k = 16 ∨ k = 17 ∨ k = 18 ∨ k = 19 ∨ k = 20 ∨ k = 21 ∨ k = 22 ∨ k = 23 ∨ (k < 1 ∨ 23 < k) := by omega
theorem ops11 (k : Int) : k = 1 ∨ k = 2 ∨ k = 3 ∨ k = 4 ∨ k = 5 ∨ k = 6 ∨ k = 7 ∨ k = 8 ∨ k = 9 ∨ k = 10 ∨ k = 11 ∨ (k < 1 ∨ 11 < k) := by omega
theorem b1A (k : Int) (w : World) : Calls Tryz.prog 194 #[.int .i64 k] w fun e w' => e = .returned (.tuple #[.int .i64 (lst k), .int .i64 (mst k)]) ∧ w = w' := by
 rcases kinds k with rfl | rfl | rfl | rfl | rfl | rfl | rfl | rfl | rfl | rfl | rfl | rfl | rfl | rfl | rfl | rfl | rfl | rfl | rfl | rfl | rfl | rfl | rfl | hk
 case' inr.inr.inr.inr.inr.inr.inr.inr.inr.inr.inr.inr.inr.inr.inr.inr.inr.inr.inr.inr.inr.inr.inr =>
  have e1 : lst k = 0 := if_neg (by omega)
  have e2 : mst k = 0 := by unfold mst; rw [if_neg (by omega), if_neg (by omega)]
  rw [e1, e2];clear e1 e2;have n1 : ¬ k = 1 := by omega
  have n2 : ¬ k = 2 := by omega
  have n3 : ¬ k = 3 := by omega
  have n4 : ¬ k = 4 := by omega
  have n5 : ¬ k = 5 := by omega
  have n6 : ¬ k = 6 := by omega
  have n7 : ¬ k = 7 := by omega
  have n8 : ¬ k = 8 := by omega
  have n9 : ¬ k = 9 := by omega
  have n10 : ¬ k = 10 := by omega
  have n11 : ¬ k = 11 := by omega
  have n12 : ¬ k = 12 := by omega
  have n13 : ¬ k = 13 := by omega
  have n14 : ¬ k = 14 := by omega
  have n15 : ¬ k = 15 := by omega
  have n16 : ¬ k = 16 := by omega
  have n17 : ¬ k = 17 := by omega
  have n18 : ¬ k = 18 := by omega
  have n19 : ¬ k = 19 := by omega
  have n20 : ¬ k = 20 := by omega
  have n21 : ¬ k = 21 := by omega
  have n22 : ¬ k = 22 := by omega
  have n23 : ¬ k = 23 := by omega
  clear hk
 all_goals
  go_enter Tryz.func194, Tryz.ntmps194
  go_wp2
  go_ret2
  exact ⟨rfl, rfl⟩
theorem b2M (k : Int) (w : World) : Calls Tryz.prog 191 #[.int .i64 k] w fun e w' => e = .returned (.int .i64 (fk k)) ∧ w = w' := by
 unfold fk
 by_cases h0 : k < 1
 · rw [if_pos h0]
   go_enter Tryz.func191, Tryz.ntmps191
   go_wp2
   go_ret
   exact ⟨rfl, rfl⟩
 rw [if_neg h0]
 by_cases h1 : k ≤ 8
 · rw [if_pos h1]
   go_enter Tryz.func191, Tryz.ntmps191
   go_wp2
   go_ret
   exact ⟨rfl, rfl⟩
 rw [if_neg h1]
 by_cases h2 : k ≤ 12
 · rw [if_pos h2]
   go_enter Tryz.func191, Tryz.ntmps191
   go_wp2
   go_ret
   exact ⟨rfl, rfl⟩
 rw [if_neg h2]
 by_cases h3 : k ≤ 15
 · rw [if_pos h3]
   go_enter Tryz.func191, Tryz.ntmps191
   go_wp2
   go_ret
   exact ⟨rfl, rfl⟩
 rw [if_neg h3]
 by_cases h4 : k ≤ 19
 · rw [if_pos h4]
   go_enter Tryz.func191, Tryz.ntmps191
   go_wp2
   go_ret
   exact ⟨rfl, rfl⟩
 rw [if_neg h4]
 by_cases h5 : k ≤ 23
 · rw [if_pos h5]
   go_enter Tryz.func191, Tryz.ntmps191
   go_wp2
   go_ret
   exact ⟨rfl, rfl⟩
 rw [if_neg h5]
 go_enter Tryz.func191, Tryz.ntmps191
 go_wp2
 go_ret
 exact ⟨rfl, rfl⟩
def fnE (k a : Int) : Int := if fk k = 0 ∨ a < lst k ∨ mst k < a then 160 else 0
theorem b3o (k a : Int) (w : World) : Calls Tryz.prog 190 #[fnV k a] w fun e w' => e = .returned (.int .i64 (fnE k a)) ∧ Ext w w' := by
 have HB := hid (fun w => b1A k w)
 have HK := hid (fun w => b2M k w)
 have HX0 := hid ((Ext.refl w).alloc (.cells #[.int .i64 k, .int .i64 a] 99));have hb := Blk.new w 99 #[.int .i64 k, .int .i64 a];have c0 : (w.alloc (.cells #[.int .i64 k, .int .i64 a] 99)).cell? ⟨w.heap.size, 0, none⟩ = some (.int .i64 k) := hb.cell 0;have c1 : (w.alloc (.cells #[.int .i64 k, .int .i64 a] 99)).cell? ⟨w.heap.size, 1, none⟩ = some (.int .i64 a) := hb.cell 1;clear hb;have HQ := hid (show (fk k = 0 → fnE k a = 160) ∧ (a < lst k → fnE k a = 160) ∧ (mst k < a → fnE k a = 160) ∧ (¬ fk k = 0 → ¬ a < lst k → ¬ mst k < a → fnE k a = 0) from ⟨fun h => if_pos (.inl h), fun h => if_pos (.inr (.inl h)), fun h => if_pos (.inr (.inr h)), fun h1 h2 h3 => if_neg fun q => q.elim h1 fun q => q.elim h2 h3⟩)
 generalize fnE k a = er at *;generalize lst k = lo at *;generalize mst k = hi at *;generalize fk k = f at *
 go_enter Tryz.func190, Tryz.ntmps190
 go_upto_region 1 with fail
 generalize w.heap.size = p at *;generalize w.alloc (.cells #[.int .i64 k, .int .i64 a] 99) = w0 at *
 go_wp2_with fail
 refine (HB.o _).mono ?_;rintro e w' ⟨rfl, rfl⟩
 go_wp2_with fail
 refine (HK.o _).mono ?_;rintro e w' ⟨rfl, rfl⟩
 by_cases h1 : f = 0
 · have HE := hid (HQ.o.1 h1)
   go_wp2
   go_ret
   exact ⟨by rw [HE.o]; rfl, HX0.o⟩
 by_cases h2 : a < lo
 · have HE := hid (HQ.o.2.1 h2)
   have hb : (f == 0) = false := by simpa using h1
   go_wp2
   go_ret
   exact ⟨by rw [HE.o]; rfl, HX0.o⟩
 by_cases h3 : hi < a
 · have HE := hid (HQ.o.2.2.1 h3)
   have hb : (f == 0) = false := by simpa using h1
   go_wp2
   go_ret
   exact ⟨by rw [HE.o]; rfl, HX0.o⟩
 have HE := hid (HQ.o.2.2.2 h1 (by omega) (by omega))
 have hb : (f == 0) = false := by simpa using h1
 clear h1
 go_wp2
 go_ret
 exact ⟨by rw [HE.o]; rfl, HX0.o⟩
theorem fam_e (k a : Int) : fam k a = if fnE k a = 0 then fk k else 0 := by
 unfold fam fnE
 by_cases h1 : fk k = 0
 · rw [h1]; simp
 by_cases h2 : a < lst k ∨ mst k < a
 · rw [if_pos h2, if_pos (show fk k = 0 ∨ a < lst k ∨ mst k < a from .inr h2)]; simp
 rw [if_neg h2, if_neg (show ¬ (fk k = 0 ∨ a < lst k ∨ mst k < a) from fun q => q.elim h1 h2), if_pos rfl]
theorem b1B (k a : Int) (w : World) : Calls Tryz.prog 181 #[fnV k a] w fun e w' => e = .returned (.int .i64 (fam k a)) ∧ Ext w w' := by
 have HC := hid (fun w => b3o k a w)
 have HK := hid (fun w => b2M k w)
 have HX0 := hid ((Ext.refl w).alloc (.cells #[.int .i64 k, .int .i64 a] 99));have HB := hid (Blk.new w 99 #[.int .i64 k, .int .i64 a]);have HQ := hid (fam_e k a);generalize fam k a = fm at *;generalize fnE k a = er at *;generalize fk k = f at *
 go_enter Tryz.func181, Tryz.ntmps181
 go_upto_region 1 with fail
 generalize w.heap.size = p at *;generalize w.alloc (.cells #[.int .i64 k, .int .i64 a] 99) = w0 at *;have c0 := HB.o.c0;have c1 := HB.o.c1
 go_wp2_with fail
 refine (HC.o _).mono ?_;rintro e w1 ⟨rfl, he1⟩;have d0 := he1.cell c0;have HX1 := hid (HX0.o.trans he1);clear he1 c0 c1
 by_cases h : er = 0
 · rw [if_pos h] at HQ
   subst h
   go_wp2_with fail
   refine (HK.o _).mono ?_;rintro e w' ⟨rfl, rfl⟩
   go_wp2
   go_ret
   exact ⟨by rw [HQ.o]; rfl, HX1.o⟩
 rw [if_neg h] at HQ
 go_wp2
 go_ret
 exact ⟨by rw [HQ.o]; rfl, HX1.o⟩
end Go.Proofs.YtdkejfjcchlnpaaGreat
