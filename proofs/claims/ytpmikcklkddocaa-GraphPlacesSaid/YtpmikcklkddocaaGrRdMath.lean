/-
  Graphs: their bytes (plain).
  Graphs: what is read as one, exactly as the package and the document's answer do (plain).
-/
import Derived.Test.YtpmikcklkddocaaGrMath
import Derived.Test.YtpmikcklkddocaaNumMath
set_option linter.unusedVariables false
namespace Go.Ox.Gr
/-- the bytes of numbers -/
def numsL (l : List Int) : List UInt8 := l.flatMap fun x => Num.put x.toNat
theorem numsL_s (l : List Int) {k : Nat} (h : k < l.length) : numsL (l.take (k + 1)) = numsL (l.take k) ++ Num.put l[k].toNat := by
  unfold numsL
  rw [List.take_succ_eq_append_getElem h, List.flatMap_append]; simp
theorem numsL_app (l r : List Int) : numsL (l ++ r) = numsL l ++ numsL r := by unfold numsL; rw [List.flatMap_append]
theorem put_le9 {n : Nat} (h : n < 9223372036854775808) : (Num.put n).length ≤ 9 := by
  have h1 := Num.put_le n
  have h2 := (Num.width_le 8 n (by omega)).2 (by omega)
  omega
theorem numsL_len : ∀ (l : List Int), (∀ x ∈ l, 0 ≤ x ∧ x < 9223372036854775808) → (numsL l).length ≤ 9 * l.length
  | [], _ => Nat.le_refl _
  | x :: l, h => by
    have h1 := numsL_len l fun y hy => h y (List.mem_cons_of_mem _ hy)
    have h2 := h x (List.mem_cons_self ..)
    have h3 := put_le9 (n := x.toNat) (by omega)
    rw [show numsL (x :: l) = Num.put x.toNat ++ numsL l from rfl, List.length_append, List.length_cons]
    omega
/-- a number may be put -/
def okI (x : Int) : Prop := 0 ≤ x ∧ x < 9223372036854775808
/-- the bytes of a node, up to its body -/
def hdrL (n : Nd) : List UInt8 := numsL ([n.op, (n.ins.length : Int)]) ++ (numsL n.ins ++ numsL [n.kind, n.fa, n.a])
/-- the bytes of nodes, so many levels -/
def ndsL : Nat → List Nd → List UInt8
  | 0, l => Num.put l.length
  | d + 1, l => Num.put l.length ++ l.flatMap fun n => hdrL n ++ ndsL d n.body
/-- a graph's bytes -/
def grL (g : G) : List UInt8 := ndsL 2 g.1 ++ Num.put g.2.toNat
/-- the numbers of nodes may be put, so many levels -/
def PutN : Nat → List Nd → Prop
  | 0, l => l = []
  | d + 1, l => l.length ≤ 100 ∧ ∀ n ∈ l, (okI n.op ∧ okI n.kind ∧ okI n.fa ∧ okI n.a ∧ n.ins.length ≤ 100 ∧ ∀ x ∈ n.ins, okI x) ∧ PutN d n.body
theorem PutN.len {d : Nat} {l : List Nd} (h : PutN d l) : l.length ≤ 100 := by
  cases d with
  | zero => cases h; simp
  | succ d => exact h.1
theorem ndsL_s (d : Nat) (l : List Nd) {k : Nat} (h : k < l.length) : (l.take (k + 1)).flatMap (fun n => hdrL n ++ ndsL d n.body) = (l.take k).flatMap (fun n => hdrL n ++ ndsL d n.body) ++ (hdrL l[k] ++ ndsL d l[k].body) := by
  rw [List.take_succ_eq_append_getElem h, List.flatMap_append]; simp
/-- how many bytes at most -/
def capL : Nat → Nat
  | 0 => 9
  | d + 1 => 9 + 100 * (1000 + capL d)
theorem hdrL_len {n : Nd} (h1 : okI n.op) (h2 : okI n.kind) (h3 : okI n.fa) (h4 : okI n.a) (h5 : n.ins.length ≤ 100) (h6 : ∀ x ∈ n.ins, okI x) : (hdrL n).length ≤ 1000 := by
  have a1 := numsL_len [n.op, (n.ins.length : Int)] (by intro x hx; simp at hx; rcases hx with rfl | rfl; exact h1; omega)
  have a2 := numsL_len n.ins h6
  have a3 := numsL_len [n.kind, n.fa, n.a] (by intro x hx; simp at hx; rcases hx with rfl | rfl | rfl; exact h2; exact h3; exact h4)
  unfold hdrL
  rw [List.length_append, List.length_append]
  simp only [List.length_cons, List.length_nil] at a1 a3
  omega
theorem flat_le {α : Type} (f : α → List UInt8) (c : Nat) : ∀ (l : List α), (∀ x ∈ l, (f x).length ≤ c) → (l.flatMap f).length ≤ l.length * c
  | [], _ => by simp
  | x :: l, h => by
    have h1 := flat_le f c l fun y hy => h y (List.mem_cons_of_mem _ hy)
    have h2 := h x (List.mem_cons_self ..)
    rw [List.flatMap_cons, List.length_append, List.length_cons, Nat.add_mul]
    omega
theorem ndsL_len : ∀ {d : Nat} {l : List Nd}, PutN d l → (ndsL d l).length ≤ capL d
  | 0, l, h => put_le9 (by have := h.len; omega)
  | d + 1, l, h => by
    have h0 := put_le9 (n := l.length) (by have := h.len; omega)
    have h1 := flat_le (fun n => hdrL n ++ ndsL d n.body) (1000 + capL d) l (fun n hn => by
      obtain ⟨⟨q1, q2, q3, q4, q5, q6⟩, q7⟩ := h.2 n hn
      have a := hdrL_len q1 q2 q3 q4 q5 q6
      have b := ndsL_len q7
      rw [List.length_append]; omega)
    have h2 := h.1
    have h3 : l.length * (1000 + capL d) ≤ 100 * (1000 + capL d) := Nat.mul_le_mul_right _ h2
    unfold ndsL capL
    rw [List.length_append]
    omega
theorem capL_le {d : Nat} (h : d ≤ 2) : capL d ≤ 20000000 := by
  match d, h with
  | 0, _ => decide
  | 1, _ => decide
  | 2, _ => decide
end Go.Ox.Gr
set_option linter.unusedVariables false
namespace Go.Ox.Gr
open Go.Ox.Num (St numP failP)
/-- the package's reader: that of numbers, and a mark -/
structure PS where
  s : St
  gb : Bool
/-- numbers, one behind the other -/
def rdS (s : St) : Nat → St
  | 0 => s
  | j + 1 => (numP (rdS s j)).1
def rdL (s : St) : Nat → List Int
  | 0 => []
  | j + 1 => rdL s j ++ [((numP (rdS s j)).2 : Int)]
theorem rdL_len (s : St) : ∀ j, (rdL s j).length = j
  | 0 => rfl
  | j + 1 => by rw [rdL, List.length_append, rdL_len s j]; rfl
theorem rdS_len (s : St) : ∀ j, (rdS s j).l.length ≤ s.l.length
  | 0 => Nat.le_refl _
  | j + 1 => Nat.le_trans (Num.numP_len _) (rdS_len s j)
/-- a count -/
def cntP (most : Int) (S : PS) : PS × Nat :=
  if most < ((numP S.s).2 : Int) ∨ (numP S.s).1.bad = true then (⟨(numP S.s).1, true⟩, 0) else (⟨(numP S.s).1, S.gb⟩, (numP S.s).2)
/-- a node, whose body is read so -/
def nodeW (body : PS → PS × List Nd) (S : PS) : PS × Nd :=
  let s1 := (numP S.s).1
  let c := cntP 2 ⟨s1, S.gb⟩
  let s2 := rdS c.1.s c.2
  let s3 := (numP s2).1
  let s4 := (numP s3).1
  let s5 := (numP s4).1
  let b := body ⟨s5, c.1.gb⟩
  (b.1, .mk ((numP S.s).2 : Nat) (rdL c.1.s c.2) ((numP s2).2 : Nat) ((numP s3).2 : Nat) ((numP s4).2 : Nat) b.2)
/-- so many, as long as nothing is bad -/
def itr (f : PS → PS × Nd) : Nat → PS → PS × List Nd
  | 0, S => (S, [])
  | n + 1, S => if S.gb = true ∨ S.s.bad = true then (S, []) else ((itr f n (f S).1).1, (f S).2 :: (itr f n (f S).1).2)
def mostP : Nat → Int
  | 0 => 0
  | _ + 1 => 32
/-- nodes, so many levels -/
def nodesP : Nat → PS → PS × List Nd
  | 0, S => ((cntP 0 S).1, [])
  | d + 1, S => itr (nodeW (nodesP d)) (cntP 32 S).2 (cntP 32 S).1
/-- what is read as a graph; whether it may be one -/
def getP (b : List UInt8) : G × Bool :=
  let r := nodesP 2 ⟨⟨b, false⟩, false⟩
  let g : G := (r.2, ((numP r.1.s).2 : Int))
  (g, !r.1.gb && (!(numP r.1.s).1.bad && ((numP r.1.s).1.l.isEmpty && gOk g)))
theorem cntP_len (m : Int) (S : PS) : (cntP m S).1.s.l.length ≤ S.s.l.length := by
  unfold cntP
  split <;> exact Num.numP_len _
theorem cntP_le (m : Int) (S : PS) (h : 0 ≤ m) : ((cntP m S).2 : Int) ≤ m := by
  unfold cntP
  split
  · exact h
  · omega
theorem nodeW_len {body : PS → PS × List Nd} (h : ∀ S, (body S).1.s.l.length ≤ S.s.l.length) (S : PS) : (nodeW body S).1.s.l.length ≤ S.s.l.length := by
  unfold nodeW
  refine Nat.le_trans (h _) ?_
  refine Nat.le_trans (Num.numP_len _) (Nat.le_trans (Num.numP_len _) (Nat.le_trans (Num.numP_len _) (Nat.le_trans (rdS_len _ _) (Nat.le_trans (cntP_len _ _) (Num.numP_len _)))))
theorem itr_len {f : PS → PS × Nd} (h : ∀ S, (f S).1.s.l.length ≤ S.s.l.length) : ∀ (n : Nat) (S : PS), (itr f n S).1.s.l.length ≤ S.s.l.length
  | 0, S => Nat.le_refl _
  | n + 1, S => by
    unfold itr
    split
    · exact Nat.le_refl _
    · exact Nat.le_trans (itr_len h n _) (h S)
theorem itr_out {f : PS → PS × Nd} : ∀ (n : Nat) (S : PS), (itr f n S).2.length ≤ n
  | 0, S => Nat.le_refl _
  | n + 1, S => by
    unfold itr
    split
    · exact Nat.zero_le _
    · exact Nat.succ_le_succ (itr_out n _)
theorem nodesP_len : ∀ (d : Nat) (S : PS), (nodesP d S).1.s.l.length ≤ S.s.l.length
  | 0, S => cntP_len _ _
  | d + 1, S => Nat.le_trans (itr_len (nodeW_len (nodesP_len d)) _ _) (cntP_len _ _)
theorem itr_stop {f : PS → PS × Nd} {S : PS} (h : S.gb = true ∨ S.s.bad = true) (n : Nat) : itr f n S = (S, []) := by
  cases n with
  | zero => rfl
  | succ n => unfold itr; rw [if_pos h]
theorem itr_go {f : PS → PS × Nd} {S : PS} (h : ¬ (S.gb = true ∨ S.s.bad = true)) (n : Nat) : itr f (n + 1) S = ((itr f n (f S).1).1, (f S).2 :: (itr f n (f S).1).2) := by
  rw [itr, if_neg h]

/-- the document's: the same with one mark -/
def cntR (most : Int) (s : St) : St × Nat := (⟨(numP s).1.l, (numP s).1.bad || decide (most < ((numP s).2 : Int))⟩, (numP s).2)
/-- numbers, so many, as long as nothing is bad -/
def numsR : Nat → St → St × List Int
  | 0, s => (s, [])
  | n + 1, s => if s.bad = true then (s, []) else ((numsR n (numP s).1).1, ((numP s).2 : Int) :: (numsR n (numP s).1).2)
def itrR (f : St → St × Nd) : Nat → St → St × List Nd
  | 0, s => (s, [])
  | n + 1, s => if s.bad = true then (s, []) else ((itrR f n (f s).1).1, (f s).2 :: (itrR f n (f s).1).2)
/-- a node; so many levels of bodies -/
def nodeR : Nat → St → St × Nd
  | d, s =>
    let s1 := (numP s).1
    let c := cntR 2 s1
    let i := numsR c.2 c.1
    let s3 := (numP i.1).1
    let s4 := (numP s3).1
    let s5 := (numP s4).1
    let b := cntR (mostP d) s5
    match d with
    | 0 => (b.1, .mk ((numP s).2 : Nat) i.2 ((numP i.1).2 : Nat) ((numP s3).2 : Nat) ((numP s4).2 : Nat) [])
    | d + 1 => ((itrR (nodeR d) b.2 b.1).1, .mk ((numP s).2 : Nat) i.2 ((numP i.1).2 : Nat) ((numP s3).2 : Nat) ((numP s4).2 : Nat) (itrR (nodeR d) b.2 b.1).2)
theorem numsR_stop {s : St} (h : s.bad = true) (n : Nat) : numsR n s = (s, []) := by
  cases n with
  | zero => rfl
  | succ n => unfold numsR; rw [if_pos h]
theorem itrR_stop {f : St → St × Nd} {s : St} (h : s.bad = true) (n : Nat) : itrR f n s = (s, []) := by
  cases n with
  | zero => rfl
  | succ n => unfold itrR; rw [if_pos h]
/-- what the document reads as a graph; whether it may be one -/
def getR (b : List UInt8) : G × Bool :=
  let s1 := (numP ⟨b, false⟩).1
  let n := (numP ⟨b, false⟩).2
  let r := itrR (nodeR 1) n s1
  let g : G := (r.2, ((numP r.1).2 : Int))
  if 32 < n then (([], 0), false) else (g, !(numP r.1).1.bad && ((numP r.1).1.l.isEmpty && gOk g))
end Go.Ox.Gr
