/-
  Graphs: nodes as trees, which may be (plain).
  Graphs: the loop's node, the places, the node at a place (plain).
-/
import Derived.Test.YtpmikcklkddocaaMem
import Derived.Test.YtpmikcklkddocaaPair
set_option linter.unusedVariables false
namespace Go.Ox.Gr
/-- a node: what it does, its inputs, its function (kind, number), its number, its body -/
inductive Nd
  | mk (op : Int) (ins : List Int) (kind fa a : Int) (body : List Nd)
def Nd.op : Nd → Int | .mk o _ _ _ _ _ => o
def Nd.ins : Nd → List Int | .mk _ i _ _ _ _ => i
def Nd.kind : Nd → Int | .mk _ _ k _ _ _ => k
def Nd.fa : Nd → Int | .mk _ _ _ f _ _ => f
def Nd.a : Nd → Int | .mk _ _ _ _ a _ => a
def Nd.body : Nd → List Nd | .mk _ _ _ _ _ b => b
instance : Inhabited Nd := ⟨.mk 0 [] 0 0 0 []⟩
/-- a function's family: by its kind -/
def fk (k : Int) : Int := if k < 1 then 0 else if k ≤ 8 then 1 else if k ≤ 12 then 2 else if k ≤ 15 then 3 else if k ≤ 19 then 4 else if k ≤ 23 then 5 else 0
def lst (k : Int) : Int := if k = 4 ∨ k = 5 ∨ k = 6 then 1 else 0
def mst (k : Int) : Int := if k = 1 ∨ k = 2 ∨ k = 4 ∨ k = 5 ∨ k = 6 ∨ k = 7 ∨ k = 8 ∨ k = 9 ∨ k = 10 ∨ k = 11 then 1048575 else if k = 13 ∨ k = 14 then 8 else 0
/-- of a function; 0: it may not be -/
def fam (k a : Int) : Int := if a < lst k ∨ mst k < a then 0 else fk k
def arity (op : Int) : Int := if op = 2 ∨ op = 3 ∨ op = 4 ∨ op = 5 ∨ op = 7 ∨ op = 9 then 1 else if op = 6 ∨ op = 8 then 2 else 0
def fmly (op : Int) : Int := if op = 2 then 1 else if op = 3 then 2 else if op = 4 then 3 else if op = 5 then 4 else if op = 6 then 5 else 0
def opOk (op : Int) : Bool := decide (1 ≤ op) && decide (op ≤ 11)
def insOk (ins : List Int) (i : Nat) : Bool := ins.all fun x => decide (0 ≤ x) && decide (x < (i : Int))
def fnOk (n : Nd) : Bool := if fmly n.op = 0 then decide (n.kind = 0) && decide (n.fa = 0) else decide (fam n.kind n.fa = fmly n.op)
def numOk (n : Nd) (loop : Int) : Bool :=
  if n.op = 1 then decide (loop < 0) && (decide (0 ≤ n.a) && decide (n.a < 4))
  else if n.op = 9 then decide (loop < 0) && (decide (1 ≤ n.a) && decide (n.a ≤ 64))
  else if n.op = 10 then decide (0 ≤ loop) && decide (n.a = 0)
  else if n.op = 11 then decide (0 ≤ loop) && (decide (0 ≤ n.a) && decide (n.a < loop))
  else decide (n.a = 0)
def base (n : Nd) (i : Nat) : Bool := opOk n.op && (decide ((n.ins.length : Int) = arity n.op) && insOk n.ins i)
/-- each of a list, by its place -/
def each (f : Nd → Nat → Bool) : List Nd → Nat → Bool
  | [], _ => true
  | n :: l, i => f n i && each f l (i + 1)
theorem each_app (f : Nd → Nat → Bool) : ∀ (l r : List Nd) (i : Nat), each f (l ++ r) i = (each f l i && each f r (i + l.length))
  | [], r, i => by simp [each]
  | n :: l, r, i => by
    simp only [List.cons_append, each, each_app f l r (i + 1), List.length_cons, Bool.and_assoc]
    rw [show i + 1 + l.length = i + (l.length + 1) by omega]
theorem each_s (f : Nd → Nat → Bool) (l : List Nd) {k : Nat} (h : k < l.length) : each f (l.take (k + 1)) 0 = (each f (l.take k) 0 && f l[k] k) := by
  rw [List.take_succ_eq_append_getElem h, each_app]
  have : (l.take k).length = k := by rw [List.length_take]; omega
  rw [this, Nat.zero_add]
  simp [each]
theorem each_no (f : Nd → Nat → Bool) (l : List Nd) {k : Nat} (h : k < l.length) (hf : f l[k] k = false) : each f l 0 = false := by
  have e : l = l.take (k + 1) ++ l.drop (k + 1) := (List.take_append_drop ..).symm
  have h2 := each_s f l h
  rw [hf, Bool.and_false] at h2
  rw [e, each_app, h2, Bool.false_and]
/-- a node of a loop's body -/
def inOk (loop : Nat) (n : Nd) (i : Nat) : Bool := base n i && (fnOk n && (numOk n loop && n.body.isEmpty))
def bodyOk (l : List Nd) (loop : Nat) : Bool := decide (1 ≤ l.length) && (decide (l.length ≤ 32) && each (inOk loop) l 0)
/-- a node of a graph -/
def outOk (n : Nd) (i : Nat) : Bool := base n i && (fnOk n && (numOk n (-1) && (if n.op = 9 then bodyOk n.body i else n.body.isEmpty)))
def listOk (l : List Nd) : Bool := decide (1 ≤ l.length) && (decide (l.length ≤ 32) && each outOk l 0)
def loops (l : List Nd) : Nat := (l.filter fun n => decide (n.op = 9)).length
theorem loops_s (l : List Nd) {k : Nat} (h : k < l.length) : loops (l.take (k + 1)) = loops (l.take k) + (if l[k].op = 9 then 1 else 0) := by
  unfold loops
  rw [List.take_succ_eq_append_getElem h, List.filter_append, List.length_append]
  congr 1
  by_cases q : l[k].op = 9 <;> simp [q]
theorem loops_le (l : List Nd) (k : Nat) : loops (l.take k) ≤ k := Nat.le_trans (List.length_filter_le _ _) (by rw [List.length_take]; omega)
/-- a graph: its nodes, which is told -/
abbrev G := List Nd × Int
def gOk (g : G) : Bool := listOk g.1 && (decide (0 ≤ g.2) && (decide (g.2 < (g.1.length : Int)) && decide (loops g.1 ≤ 1)))
theorem fk_range (k : Int) : 0 ≤ fk k ∧ fk k ≤ 5 := by unfold fk; repeat' split <;> omega
theorem fmly_range (k : Int) : 0 ≤ fmly k ∧ fmly k ≤ 5 := by unfold fmly; repeat' split <;> omega
theorem arity_range (k : Int) : 0 ≤ arity k ∧ arity k ≤ 2 := by unfold arity; repeat' split <;> omega
end Go.Ox.Gr
set_option linter.unusedVariables false
namespace Go.Ox.Gr
/-- the first node that is a loop -/
def loopFrom : List Nd → Nat → Int
  | [], _ => -1
  | n :: l, i => if n.op = 9 then (i : Int) else loopFrom l (i + 1)
def loopAt (l : List Nd) : Int := loopFrom l 0
theorem loopFrom_hit {n : Nd} {l : List Nd} {i : Nat} (h : n.op = 9) : loopFrom (n :: l) i = (i : Int) := if_pos h
theorem loopFrom_miss {n : Nd} {l : List Nd} {i : Nat} (h : ¬ n.op = 9) : loopFrom (n :: l) i = loopFrom l (i + 1) := if_neg h
theorem loopFrom_app : ∀ (l r : List Nd) (i : Nat), loopFrom (l ++ r) i = if loopFrom l i = -1 then loopFrom r (i + l.length) else loopFrom l i
  | [], r, i => by rw [if_pos (show loopFrom [] i = -1 from rfl)]; rfl
  | n :: l, r, i => by
    rw [List.cons_append, List.length_cons]
    by_cases h : n.op = 9
    · rw [loopFrom_hit h, loopFrom_hit h, if_neg (by omega)]
    · rw [loopFrom_miss h, loopFrom_miss h, loopFrom_app l r (i + 1), show i + 1 + l.length = i + (l.length + 1) by omega]
theorem loopAt_s (l : List Nd) {k : Nat} (h : k < l.length) (hn : loopAt (l.take k) = -1) : loopAt (l.take (k + 1)) = if l[k].op = 9 then (k : Int) else -1 := by
  unfold loopAt at *
  rw [List.take_succ_eq_append_getElem h, loopFrom_app, if_pos hn, List.length_take, Nat.zero_add, Nat.min_eq_left (by omega)]
  rfl
theorem loopAt_hit (l : List Nd) {k : Nat} (h : k < l.length) (hn : loopAt (l.take k) = -1) (h9 : l[k].op = 9) : loopAt l = (k : Int) := by
  have h2 := loopAt_s l h hn
  rw [if_pos h9] at h2
  unfold loopAt at *
  rw [← List.take_append_drop (k + 1) l, loopFrom_app, h2, if_neg (by omega)]
theorem loopFrom_range : ∀ (l : List Nd) (i : Nat), loopFrom l i = -1 ∨ ((i : Int) ≤ loopFrom l i ∧ loopFrom l i < (i : Int) + (l.length : Int))
  | [], i => .inl rfl
  | n :: l, i => by
    by_cases h : n.op = 9
    · rw [loopFrom_hit h]; exact .inr ⟨Int.le_refl _, by rw [List.length_cons]; omega⟩
    · rw [loopFrom_miss h]
      rcases loopFrom_range l (i + 1) with q | q
      · exact .inl q
      · refine .inr ⟨by omega, ?_⟩
        rw [List.length_cons]; omega
theorem loopAt_range (l : List Nd) : loopAt l = -1 ∨ (0 ≤ loopAt l ∧ loopAt l < (l.length : Int)) := by
  have := loopFrom_range l 0
  unfold loopAt
  simpa using this
/-- the places of a node -/
abbrev Pl := Int × Int
def plN (i n : Nat) : List Pl := ((i : Int), -1) :: (List.range n).map fun (k : Nat) => ((i : Int), (k : Int))
theorem plN_0 (i : Nat) : plN i 0 = [((i : Int), -1)] := rfl
theorem plN_s (i n : Nat) : plN i (n + 1) = plN i n ++ [((i : Int), (n : Int))] := by
  unfold plN
  rw [List.range_succ, List.map_append]
  rfl
theorem plN_len (i n : Nat) : (plN i n).length = n + 1 := by unfold plN; simp
def plFrom : List Nd → Nat → List Pl
  | [], _ => []
  | n :: l, i => plN i n.body.length ++ plFrom l (i + 1)
def places (l : List Nd) : List Pl := plFrom l 0
theorem plFrom_app : ∀ (l r : List Nd) (i : Nat), plFrom (l ++ r) i = plFrom l i ++ plFrom r (i + l.length)
  | [], r, i => by simp [plFrom]
  | n :: l, r, i => by
    simp only [List.cons_append, plFrom, List.length_cons, plFrom_app l r (i + 1), List.append_assoc]
    rw [show i + 1 + l.length = i + (l.length + 1) by omega]
theorem places_s (l : List Nd) {k : Nat} (h : k < l.length) : places (l.take (k + 1)) = places (l.take k) ++ plN k l[k].body.length := by
  unfold places
  rw [List.take_succ_eq_append_getElem h, plFrom_app, List.length_take, Nat.min_eq_left (by omega), Nat.zero_add]
  simp [plFrom]
theorem plFrom_mem {p : Pl} : ∀ {l : List Nd} {i : Nat}, p ∈ plFrom l i ↔ ∃ (k : Nat) (h : k < l.length), p.1 = ((i + k : Nat) : Int) ∧ (p.2 = -1 ∨ (0 ≤ p.2 ∧ p.2 < (l[k].body.length : Int)))
  | [], i => by simp [plFrom]
  | n :: l, i => by
    unfold plFrom
    rw [List.mem_append, plFrom_mem (l := l) (i := i + 1)]
    constructor
    · rintro (h | ⟨k, hk, h1, h2⟩)
      · refine ⟨0, by simp, ?_⟩
        unfold plN at h
        rw [List.mem_cons, List.mem_map] at h
        rcases h with rfl | ⟨j, hj, rfl⟩
        · exact ⟨by simp, .inl rfl⟩
        · have := List.mem_range.1 hj
          exact ⟨by simp, .inr ⟨by simp, by simp; exact this⟩⟩
      · exact ⟨k + 1, by simp; exact hk, by rw [h1]; congr 1; omega, by simpa using h2⟩
    · rintro ⟨k, hk, h1, h2⟩
      cases k with
      | zero =>
        refine .inl ?_
        unfold plN
        rw [List.mem_cons, List.mem_map]
        obtain ⟨p1, p2⟩ := p
        simp at h1 h2
        rcases h2 with h2 | ⟨h2, h3⟩
        · exact .inl (by rw [h1, h2])
        · refine .inr ⟨p2.toNat, List.mem_range.2 (by omega), ?_⟩
          rw [h1]
          exact Prod.ext rfl (by simp; omega)
      | succ k =>
        refine .inr ⟨k, by simpa using hk, by rw [h1]; congr 1; omega, by simpa using h2⟩
/-- the node at a place -/
def nodeAt (l : List Nd) (p : Pl) : Option Nd :=
  if 0 ≤ p.1 then
    match l[p.1.toNat]? with
    | none => none
    | some n => if p.2 = -1 then some n else if 0 ≤ p.2 then n.body[p.2.toNat]? else none
  else none
theorem nodeAt_mem {l : List Nd} {p : Pl} : p ∈ places l ↔ (nodeAt l p).isSome = true := by
  unfold places
  rw [plFrom_mem]
  unfold nodeAt
  constructor
  · rintro ⟨k, hk, h1, h2⟩
    rw [Nat.zero_add] at h1
    rw [if_pos (by omega), show p.1.toNat = k by omega, List.getElem?_eq_getElem hk]
    rcases h2 with h2 | ⟨h2, h3⟩
    · simp [h2]
    · simp only
      rw [if_neg (by omega), if_pos h2, List.getElem?_eq_getElem (by omega)]; rfl
  · intro h
    by_cases h0 : 0 ≤ p.1
    · rw [if_pos h0] at h
      cases hn : l[p.1.toNat]? with
      | none => rw [hn] at h; cases h
      | some n =>
        rw [hn] at h
        obtain ⟨hk, hkn⟩ := List.getElem?_eq_some_iff.1 hn
        refine ⟨p.1.toNat, hk, by omega, ?_⟩
        rw [hkn]
        simp only at h
        by_cases h1 : p.2 = -1
        · exact .inl h1
        · rw [if_neg h1] at h
          by_cases h2 : 0 ≤ p.2
          · rw [if_pos h2] at h
            obtain ⟨x, hx⟩ := Option.isSome_iff_exists.1 h
            obtain ⟨hj, _⟩ := List.getElem?_eq_some_iff.1 hx
            exact .inr ⟨h2, by omega⟩
          · rw [if_neg h2] at h; cases h
    · rw [if_neg h0] at h; cases h
end Go.Ox.Gr
