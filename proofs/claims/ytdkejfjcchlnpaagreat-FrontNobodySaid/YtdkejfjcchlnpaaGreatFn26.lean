/-
  GrUsersR, NumMath, GrRdMath, SlcB, NumPut, packed: what the claim needs of them.
-/
import Derived.Test.YtdkejfjcchlnpaaGreatFn24
set_option maxHeartbeats 40000000
open Go.Lib (hid)
set_option linter.unusedSimpArgs false
set_option linter.unusedVariables false
set_option maxRecDepth 100000
namespace Go.Ox.Gr
def b20 (top : Bool) (name : Int) (n : Nd) (q : Int × Int) : List ((Int × Int) × Int) := if decide (q.2 < 0) = top then nmN name q n.ins else []
def b3K (top : Bool) (name : Int) (n : Nd) (q : Int × Int) : List ((Int × Int) × Int) := if top = true then (if n.op = 11 ∧ n.a = name then [(q, 0)] else []) else []
def ruP0 (top : Bool) (name : Int) (l : List Nd) (ps : List (Int × Int)) : List ((Int × Int) × Int) := ps.flatMap fun q => b20 top name ((nodeAt l q).getD default) q
def ruP1 (top : Bool) (name : Int) (l : List Nd) (ps : List (Int × Int)) : List ((Int × Int) × Int) := ps.flatMap fun q => b3K top name ((nodeAt l q).getD default) q
def ru (top : Bool) (name : Int) (l : List Nd) : List ((Int × Int) × Int) := ruP0 top name l (a0N l) ++ ruP1 top name l (a0N l)
def Lk (l : List Nd) : Prop := l.length ≤ 100 ∧ ∀ n ∈ l, n.body.length ≤ 100 ∧ n.ins.length ≤ 100 ∧ ∀ m ∈ n.body, m.ins.length ≤ 100
end Go.Ox.Gr
namespace Go.Proofs.YtdkejfjcchlnpaaGreat
open Go.RowKit Go.Ox Go.Ox.Gr
attribute [local irreducible] RE OE a00
end Go.Proofs.YtdkejfjcchlnpaaGreat
namespace Go.Ox.Num
def digits (n : Nat) : Nat → List UInt8
 | 0 => []
 | s + 1 => digits (n / 256) s ++ [UInt8.ofNat (n % 256)]
theorem a0D : ∀ (s n : Nat), (digits n s).length = s
 | 0, _ => rfl
 | s + 1, n => by rw [digits, List.length_append, a0D s]; rfl
theorem a6t : ∀ (s n i : Nat) (h : i < (digits n s).length), (digits n s)[i] = UInt8.ofNat (n / 256 ^ (s - 1 - i) % 256)
 | 0, n, i, h => by simp [digits] at h
 | s + 1, n, i, h => by
  rw [a0D] at h;simp only [digits];rw [List.getElem_append]
  split
  · rename_i h2
    rw [a6t s (n / 256) i h2];rw [a0D] at h2;rw [Nat.div_div_eq_div_mul, show s + 1 - 1 - i = (s - 1 - i) + 1 by omega, Nat.pow_succ, Nat.mul_comm 256]
  · rename_i h2
    rw [a0D] at h2;have : i = s := by omega
    subst this;simp
theorem a8K (n s : Nat) {k : Nat} (hk : k < s) (x : UInt8) (hx : x = UInt8.ofNat (n / 256 ^ (s - 1 - k) % 256)) :
 ((digits n s).take k ++ List.replicate (s - k) 0).set k x = (digits n s).take (k + 1) ++ List.replicate (s - (k + 1)) 0 := by
 have hl := a0D s n;have hk' : k < (digits n s).length := by omega
 rw [List.take_succ_eq_append_getElem hk', a6t s n k hk', ← hx];rw [List.set_append_right _ _ (by simp; omega)]
 rw [List.length_take, Nat.min_eq_left (by omega), Nat.sub_self, show s - k = (s - (k + 1)) + 1 by omega, List.replicate_succ, List.set_cons_zero]
 simp
def width (n : Nat) : Nat := if h : n < 256 then 1 else 1 + width (n / 256)
termination_by n
decreasing_by omega
theorem a2O (n : Nat) : 1 ≤ width n := by
 unfold width; split <;> omega
theorem a4h {n : Nat} (h : n < 256) : width n = 1 := by unfold width; rw [dif_pos h]
theorem a6u {n : Nat} (h : ¬ n < 256) : width n = 1 + width (n / 256) := by rw [width]; rw [dif_neg h]
theorem a6v (n : Nat) : width n = (if n / 256 = 0 then 1 else 1 + width (n / 256)) := by
 by_cases h : n < 256
 · rw [a4h h, if_pos (by omega)]
 rw [a6u h, if_neg (by omega)]
theorem a1w : ∀ (k n : Nat), 1 ≤ k → (width n ≤ k ↔ n < 256 ^ k)
 | 0, _, h => by omega
 | k + 1, n, _ => by
  by_cases h : n < 256
  · rw [a4h h]
    have : 256 ≤ 256 ^ (k + 1) := by
     rw [Nat.pow_succ];have := Nat.pow_pos (n := k) (show 0 < 256 by omega)
     omega
    constructor <;> intro _ <;> omega
  · rw [a6u h]
    cases k with
    | zero =>
     have := a2O (n / 256);constructor
     · intro h1; omega
     · intro h1; simp at h1; omega
    | succ k =>
     rw [show 1 + width (n / 256) ≤ k + 1 + 1 ↔ width (n / 256) ≤ k + 1 by omega, a1w (k + 1) (n / 256) (by omega), Nat.pow_succ 256 (k + 1)]
     rw [Nat.div_lt_iff_lt_mul (by omega)]
def put (n : Nat) : List UInt8 :=
 if n < 240 then [UInt8.ofNat n]
 else if n < 2288 then [UInt8.ofNat (240 + (n - 240) / 256), UInt8.ofNat ((n - 240) % 256)]
 else UInt8.ofNat (246 + width n) :: digits n (width n)
theorem put_1 {n : Nat} (h : n < 240) : put n = [UInt8.ofNat n] := by unfold put; rw [if_pos h]
theorem put_2 {n : Nat} (h : ¬ n < 240) (h2 : n < 2288) : put n = [UInt8.ofNat (240 + (n - 240) / 256), UInt8.ofNat ((n - 240) % 256)] := by unfold put; rw [if_neg h, if_pos h2]
theorem put_3 {n : Nat} (h : ¬ n < 240) (h2 : ¬ n < 2288) : put n = UInt8.ofNat (246 + width n) :: digits n (width n) := by unfold put; rw [if_neg h, if_neg h2]
theorem a7a (n : Nat) : (put n).length = if n < 240 then 1 else if n < 2288 then 2 else 1 + width n := by
 unfold put
 split
 · rfl
 split
 · rfl
 rw [List.length_cons, a0D]; omega
theorem b2P (n : Nat) : (put n).length ≤ 1 + width n := by
 rw [a7a];have := a2O n
 split
 · omega
 split <;> omega
def val (l : List UInt8) : Nat := l.foldl (fun n c => n * 256 + c.toNat) 0
theorem b3L : val [] = 0 := rfl
theorem a7S (l : List UInt8) (c : UInt8) : val (l ++ [c]) = val l * 256 + c.toNat := by simp [val]
theorem a5d : ∀ (s n : Nat), val (digits n s) = n % 256 ^ s
 | 0, n => by simp [digits, val, Nat.mod_one]
 | s + 1, n => by
  rw [digits, a7S, a5d s, UInt8.toNat_ofNat_of_lt' (by have := Nat.mod_lt n (show 0 < 256 by omega); simpa using this)]
  rw [Nat.pow_succ, Nat.mul_comm (256 ^ s) 256, Nat.mod_mul, Nat.mul_comm, Nat.add_comm]
theorem a7b : ∀ (l : List UInt8) (n : Nat), l.foldl (fun n c => n * 256 + c.toNat) n = n * 256 ^ l.length + val l
 | [], n => by simp [val]
 | b :: l, n => by
  rw [List.foldl_cons, a7b l, show val (b :: l) = l.foldl (fun n c => n * 256 + c.toNat) (0 * 256 + b.toNat) from rfl, a7b l, List.length_cons, Nat.pow_succ, Nat.add_mul, Nat.zero_mul, Nat.zero_add]
  have : n * 256 * 256 ^ l.length = n * (256 ^ l.length * 256) := by rw [Nat.mul_assoc, Nat.mul_comm 256]
  omega
theorem a1s (l r : List UInt8) : val (l ++ r) = val l * 256 ^ r.length + val r := by
 show (l ++ r).foldl (fun n c => n * 256 + c.toNat) 0 = _
 rw [List.foldl_append, a7b];rfl
theorem a5e : ∀ (l : List UInt8) (n : Nat), l.foldl (fun n c => n * 256 + c.toNat) n < (n + 1) * 256 ^ l.length
 | [], n => by simp
 | c :: l, n => by
  have := a5e l (n * 256 + c.toNat);have hc := c.toNat_lt;rw [List.foldl_cons, List.length_cons, Nat.pow_succ];refine Nat.lt_of_lt_of_le this ?_;rw [Nat.mul_comm (256 ^ l.length) 256, ← Nat.mul_assoc];exact Nat.mul_le_mul_right _ (by omega)
theorem b2Q (l : List UInt8) : val l < 256 ^ l.length := by
 have := a5e l 0;simpa [val] using this
attribute [irreducible] digits put val
end Go.Ox.Num
namespace Go.Ox.Num
structure St where
 l : List UInt8
 bad : Bool
def a2f (s : St) : St := ⟨s.l, true⟩
def a0F (n : Int) (s : St) : St × List UInt8 :=
 if s.bad = true ∨ n < 0 ∨ (s.l.length : Int) < n then (a2f s, []) else (⟨s.l.drop n.toNat, false⟩, s.l.take n.toNat)
def a07 (n : Int) (s : St) : St × Nat :=
 if n < 1 ∨ 8 < n then (a2f s, 0)
 else if (a0F n s).1.bad = true ∨ 9223372036854775807 < val (a0F n s).2 then (a2f (a0F n s).1, 0)
 else ((a0F n s).1, val (a0F n s).2)
def a3H (n : Nat) (is : Bool) (s : St) : St × Nat := if s.bad = true ∨ is = false then (a2f s, 0) else (s, n)
def a0l (s : St) : St × Nat :=
 if (a07 1 s).2 < 240 then a07 1 s
 else if (a07 1 s).2 < 248 then
  a3H (240 + ((a07 1 s).2 - 240) * 256 + (a07 1 (a07 1 s).1).2) true (a07 1 (a07 1 s).1).1
 else if (a07 1 s).2 ≤ 254 then
  a3H (a07 ((a07 1 s).2 - 246 : Nat) (a07 1 s).1).2 (decide (2288 ≤ (a07 ((a07 1 s).2 - 246 : Nat) (a07 1 s).1).2) && (put (a07 ((a07 1 s).2 - 246 : Nat) (a07 1 s).1).2).length == (a07 1 s).2 - 245) (a07 ((a07 1 s).2 - 246 : Nat) (a07 1 s).1).1
 else (a2f (a07 1 s).1, 0)
theorem b02 {n : Int} {s : St} (h : s.bad = true ∨ n < 0 ∨ (s.l.length : Int) < n) : a0F n s = (a2f s, []) := if_pos h
theorem a5f {n : Nat} {s : St} (h0 : s.bad = false) (h : n ≤ s.l.length) : a0F n s = (⟨s.l.drop n, false⟩, s.l.take n) := by
 unfold a0F;rw [if_neg (by rw [h0]; simp; omega)]
 simp
theorem a8L (n : Int) (s : St) : (a0F n s).1.l.length ≤ s.l.length := by
 unfold a0F a2f
 split
 · exact Nat.le_refl _
 simp
theorem a5g (n : Int) (s : St) : ((a0F n s).2.length : Int) ≤ n ∨ (a0F n s).2 = [] := by
 unfold a0F
 split
 · exact .inr rfl
 left
 simp; omega
theorem a2o (n : Int) (s : St) : (a07 n s).1.l.length ≤ s.l.length := by
 unfold a07 a2f
 split
 · exact Nat.le_refl _
 split <;> exact a8L n s
theorem a8M (n : Int) (s : St) : (a07 n s).2 ≤ 9223372036854775807 := by
 unfold a07
 split
 · simp
 split
 · simp
 rename_i h; simp only; omega
theorem b21 {l : List UInt8} {k : Nat} (h : k < l.length) : val (l.take (k + 1)) = val (l.take k) * 256 + l[k].toNat := by
 rw [List.take_succ_eq_append_getElem h, a7S]
theorem val_one (b : UInt8) : val [b] = b.toNat := by simp [val]
theorem b03 {n : Int} {s : St} (h : n < 1 ∨ 8 < n) : a07 n s = (a2f s, 0) := if_pos h
theorem a8N {n : Int} {s : St} (h : ¬ (n < 1 ∨ 8 < n)) (h2 : (a0F n s).1.bad = true ∨ 9223372036854775807 < val (a0F n s).2) : a07 n s = (a2f (a0F n s).1, 0) := by
 unfold a07; rw [if_neg h, if_pos h2]
theorem b04 {n : Int} {s : St} (h : ¬ (n < 1 ∨ 8 < n)) (h2 : ¬ ((a0F n s).1.bad = true ∨ 9223372036854775807 < val (a0F n s).2)) : a07 n s = ((a0F n s).1, val (a0F n s).2) := by
 unfold a07; rw [if_neg h, if_neg h2]
theorem a8O {l : List UInt8} (h : l.length ≤ 1) : val l < 256 := by
 have := b2Q l;have h2 : 256 ^ l.length ≤ 256 ^ 1 := Nat.pow_le_pow_right (by omega) h
 omega
theorem a4i (s : St) : (a07 1 s).2 < 256 := by
 have h := a5g 1 s
 have hl : (a0F 1 s).2.length ≤ 1 := by
  rcases h with h | h
  · omega
  simp [h]
 have := a8O hl;unfold a07
 split
 · simp
 split
 · simp
 exact this
theorem numP_1 {s s1 : St} {c : Nat} (h : a07 1 s = (s1, c)) (hc : c < 240) : a0l s = (s1, c) := by
 unfold a0l; rw [h]; simp [hc]
theorem numP_2 {s s1 s2 : St} {c d : Nat} (h : a07 1 s = (s1, c)) (h0 : ¬ c < 240) (hc : c < 248) (h2 : a07 1 s1 = (s2, d)) : a0l s = a3H (240 + (c - 240) * 256 + d) true s2 := by
 unfold a0l; rw [h]; simp [h0, hc, h2]
theorem numP_3 {s s1 s2 : St} {c n : Nat} (h : a07 1 s = (s1, c)) (h0 : ¬ c < 240) (h1 : ¬ c < 248) (hc : c ≤ 254) (h2 : a07 (c - 246 : Nat) s1 = (s2, n)) :
 a0l s = a3H n (decide (2288 ≤ n) && (put n).length == c - 245) s2 := by
 unfold a0l; rw [h]; simp [h0, h1, hc, h2]
theorem numP_4 {s s1 : St} {c : Nat} (h : a07 1 s = (s1, c)) (hc : ¬ c ≤ 254) : a0l s = (a2f s1, 0) := by
 unfold a0l; rw [h]; simp [show ¬ c < 240 by omega, show ¬ c < 248 by omega, hc]
theorem a6w (n : Nat) (is : Bool) (s : St) : (a3H n is s).1.l.length ≤ s.l.length := by
 unfold a3H a2f; split <;> exact Nat.le_refl _
theorem a15 (s : St) : (a0l s).1.l.length ≤ s.l.length := by
 have h1 := a2o 1 s;unfold a0l
 split
 · exact h1
 split
 · exact Nat.le_trans (a6w _ _ _) (Nat.le_trans (a2o _ _) h1)
 split
 · exact Nat.le_trans (a6w _ _ _) (Nat.le_trans (a2o _ _) h1)
 exact h1
theorem a5h {l r : List UInt8} (h1 : 1 ≤ l.length) (h2 : l.length ≤ 8) (h3 : val l ≤ 9223372036854775807) : a07 l.length ⟨l ++ r, false⟩ = (⟨r, false⟩, val l) := by
 unfold a07;rw [if_neg (by omega), a5f rfl (by simp)]
 rw [if_neg (by simp; omega)]
 simp
theorem a2p (b : UInt8) (r : List UInt8) : a07 1 ⟨b :: r, false⟩ = (⟨r, false⟩, b.toNat) := by
 have := a5h (l := [b]) (r := r) (by simp) (by simp) (by rw [val_one]; have := b.toNat_lt; omega)
 rw [val_one] at this;exact this
theorem a1V {n : Nat} (hn : n < 9223372036854775808) (r : List UInt8) : a0l ⟨put n ++ r, false⟩ = (⟨r, false⟩, n) := by
 have hb : ∀ m : Nat, m < 256 → (UInt8.ofNat m).toNat = m := fun m h => UInt8.toNat_ofNat_of_lt' (by simpa using h)
 by_cases h1 : n < 240
 · rw [put_1 h1]
   unfold a0l;rw [List.singleton_append, a2p, hb n (by omega)]
   simp only [if_pos h1]
 by_cases h2 : n < 2288
 · rw [put_2 h1 h2]
   unfold a0l;rw [List.cons_append, a2p, hb _ (by omega)]
   simp only [List.singleton_append, a2p];rw [if_neg (by omega), if_pos (by omega), hb _ (by omega)]
   unfold a3H;rw [if_neg (by simp)]
   have e : 240 + (240 + (n - 240) / 256 - 240) * 256 + (n - 240) % 256 = n := by omega
   rw [e]
 have hw := (a1w 8 n (by omega)).2 (by omega)
 have hw1 : ¬ width n ≤ 1 := fun h => by have := (a1w 1 n (by omega)).1 h; omega
 have hlen : (put n).length = 1 + width n := by rw [a7a, if_neg h1, if_neg h2]
 have hv : val (digits n (width n)) = n := by
  rw [a5d, Nat.mod_eq_of_lt ((a1w _ n (a2O n)).1 (Nat.le_refl _))]
 have hd := a0D (width n) n;have hf := a5h (l := digits n (width n)) (r := r) (by omega) (by omega) (by rw [hv]; omega)
 rw [hd, hv] at hf;have hp := put_3 h1 h2;unfold a0l;rw [hp, List.cons_append, a2p, hb _ (by omega)]
 simp only;rw [if_neg (by omega), if_neg (by omega), if_pos (by omega)]
 rw [show 246 + width n - 246 = width n by omega, hf]
 unfold a3H;simp only;rw [hlen];rw [if_neg (by simp; omega)]
open Go.Op
def hd (n : Nat) : Nat := if n < 240 then n else if n < 2288 then 240 + (n - 240) / 256 else 246 + width n
open Go.Op
end Go.Ox.Num
namespace Go.Ox.Gr
def a0k (l : List Int) : List UInt8 := l.flatMap fun x => Num.put x.toNat
theorem b3M (l : List Int) {k : Nat} (h : k < l.length) : a0k (l.take (k + 1)) = a0k (l.take k) ++ Num.put l[k].toNat := by
 unfold a0k;rw [List.take_succ_eq_append_getElem h, List.flatMap_append]; simp
theorem a1W {n : Nat} (h : n < 9223372036854775808) : (Num.put n).length ≤ 9 := by
 have h1 := Num.b2P n;have h2 := (Num.a1w 8 n (by omega)).2 (by omega)
 omega
theorem a1e : ∀ (l : List Int), (∀ x ∈ l, 0 ≤ x ∧ x < 9223372036854775808) → (a0k l).length ≤ 9 * l.length
 | [], _ => Nat.le_refl _
 | x :: l, h => by
  have h1 := a1e l fun y hy => h y (List.mem_cons_of_mem _ hy)
  have h2 := h x (List.mem_cons_self ..);have h3 := a1W (n := x.toNat) (by omega)
  rw [show a0k (x :: l) = Num.put x.toNat ++ a0k l from rfl, List.length_append, List.length_cons];omega
def okI (x : Int) : Prop := 0 ≤ x ∧ x < 9223372036854775808
def a4I (n : Nd) : List UInt8 := a0k ([n.op, (n.ins.length : Int)]) ++ (a0k n.ins ++ a0k [n.kind, n.fa, n.a])
def a38 : Nat → List Nd → List UInt8
 | 0, l => Num.put l.length
 | d + 1, l => Num.put l.length ++ l.flatMap fun n => a4I n ++ a38 d n.body
def grL (g : G) : List UInt8 := a38 2 g.1 ++ Num.put g.2.toNat
def b2R : Nat → List Nd → Prop
 | 0, l => l = []
 | d + 1, l => l.length ≤ 100 ∧ ∀ n ∈ l, (okI n.op ∧ okI n.kind ∧ okI n.fa ∧ okI n.a ∧ n.ins.length ≤ 100 ∧ ∀ x ∈ n.ins, okI x) ∧ b2R d n.body
theorem b2R.len {d : Nat} {l : List Nd} (h : b2R d l) : l.length ≤ 100 := by
 cases d with
 | zero => cases h; simp
 | succ d => exact h.1
theorem ndsL_s (d : Nat) (l : List Nd) {k : Nat} (h : k < l.length) : (l.take (k + 1)).flatMap (fun n => a4I n ++ a38 d n.body) = (l.take k).flatMap (fun n => a4I n ++ a38 d n.body) ++ (a4I l[k] ++ a38 d l[k].body) := by
 rw [List.take_succ_eq_append_getElem h, List.flatMap_append]; simp
def b05 : Nat → Nat
 | 0 => 9
 | d + 1 => 9 + 100 * (1000 + b05 d)
theorem a7T {n : Nd} (h1 : okI n.op) (h2 : okI n.kind) (h3 : okI n.fa) (h4 : okI n.a) (h5 : n.ins.length ≤ 100) (h6 : ∀ x ∈ n.ins, okI x) : (a4I n).length ≤ 1000 := by
 have a1 := a1e [n.op, (n.ins.length : Int)] (by intro x hx; simp at hx; rcases hx with rfl | rfl; exact h1; omega)
 have a2 := a1e n.ins h6;have a3 := a1e [n.kind, n.fa, n.a] (by intro x hx; simp at hx; rcases hx with rfl | rfl | rfl; exact h2; exact h3; exact h4)
 unfold a4I;rw [List.length_append, List.length_append];simp only [List.length_cons, List.length_nil] at a1 a3;omega
theorem a5O {α : Type} (f : α → List UInt8) (c : Nat) : ∀ (l : List α), (∀ x ∈ l, (f x).length ≤ c) → (l.flatMap f).length ≤ l.length * c
 | [], _ => by simp
 | x :: l, h => by
  have h1 := a5O f c l fun y hy => h y (List.mem_cons_of_mem _ hy)
  have h2 := h x (List.mem_cons_self ..);rw [List.flatMap_cons, List.length_append, List.length_cons, Nat.add_mul];omega
theorem a5P : ∀ {d : Nat} {l : List Nd}, b2R d l → (a38 d l).length ≤ b05 d
 | 0, l, h => a1W (by have := h.len; omega)
 | d + 1, l, h => by
  have h0 := a1W (n := l.length) (by have := h.len; omega)
  have h1 := a5O (fun n => a4I n ++ a38 d n.body) (1000 + b05 d) l (fun n hn => by
   obtain ⟨⟨q1, q2, q3, q4, q5, q6⟩, q7⟩ := h.2 n hn;have a := a7T q1 q2 q3 q4 q5 q6;have b := a5P q7
   rw [List.length_append]; omega)
  have h2 := h.1;have h3 : l.length * (1000 + b05 d) ≤ 100 * (1000 + b05 d) := Nat.mul_le_mul_right _ h2;unfold a38 b05;rw [List.length_append];omega
theorem b06 {d : Nat} (h : d ≤ 2) : b05 d ≤ 20000000 := by
 match d, h with
 | 0, _ => decide
 | 1, _ => decide
 | 2, _ => decide
open Go.Ox.Num (St a0l a2f)
structure PS where
 s : St
 gb : Bool
def rdS (s : St) : Nat → St
 | 0 => s
 | j + 1 => (a0l (rdS s j)).1
def rdL (s : St) : Nat → List Int
 | 0 => []
 | j + 1 => rdL s j ++ [((a0l (rdS s j)).2 : Int)]
theorem b07 (s : St) : ∀ j, (rdL s j).length = j
 | 0 => rfl
 | j + 1 => by rw [rdL, List.length_append, b07 s j]; rfl
theorem a7c (s : St) : ∀ j, (rdS s j).l.length ≤ s.l.length
 | 0 => Nat.le_refl _
 | j + 1 => Nat.le_trans (Num.a15 _) (a7c s j)
def a27 (most : Int) (S : PS) : PS × Nat :=
 if most < ((a0l S.s).2 : Int) ∨ (a0l S.s).1.bad = true then (⟨(a0l S.s).1, true⟩, 0) else (⟨(a0l S.s).1, S.gb⟩, (a0l S.s).2)
def a1j (body : PS → PS × List Nd) (S : PS) : PS × Nd :=
 let s1 := (a0l S.s).1
 let c := a27 2 ⟨s1, S.gb⟩
 let s2 := rdS c.1.s c.2
 let s3 := (a0l s2).1
 let s4 := (a0l s3).1
 let s5 := (a0l s4).1
 let b := body ⟨s5, c.1.gb⟩
 (b.1, .mk ((a0l S.s).2 : Nat) (rdL c.1.s c.2) ((a0l s2).2 : Nat) ((a0l s3).2 : Nat) ((a0l s4).2 : Nat) b.2)
def itr (f : PS → PS × Nd) : Nat → PS → PS × List Nd
 | 0, S => (S, [])
 | n + 1, S => if S.gb = true ∨ S.s.bad = true then (S, []) else ((itr f n (f S).1).1, (f S).2 :: (itr f n (f S).1).2)
def a0b : Nat → PS → PS × List Nd
 | 0, S => ((a27 0 S).1, [])
 | d + 1, S => itr (a1j (a0b d)) (a27 32 S).2 (a27 32 S).1
def b3N (b : List UInt8) : G × Bool :=
 let r := a0b 2 ⟨⟨b, false⟩, false⟩
 let g : G := (r.2, ((a0l r.1.s).2 : Int))
 (g, !r.1.gb && (!(a0l r.1.s).1.bad && ((a0l r.1.s).1.l.isEmpty && gOk g)))
theorem a2P (m : Int) (S : PS) : (a27 m S).1.s.l.length ≤ S.s.l.length := by
 unfold a27
 split <;> exact Num.a15 _
theorem a7d (m : Int) (S : PS) (h : 0 ≤ m) : ((a27 m S).2 : Int) ≤ m := by
 unfold a27
 split
 · exact h
 omega
theorem a6x {body : PS → PS × List Nd} (h : ∀ S, (body S).1.s.l.length ≤ S.s.l.length) (S : PS) : (a1j body S).1.s.l.length ≤ S.s.l.length := by
 unfold a1j;refine Nat.le_trans (h _) ?_;refine Nat.le_trans (Num.a15 _) (Nat.le_trans (Num.a15 _) (Nat.le_trans (Num.a15 _) (Nat.le_trans (a7c _ _) (Nat.le_trans (a2P _ _) (Num.a15 _)))))
theorem b08 {f : PS → PS × Nd} (h : ∀ S, (f S).1.s.l.length ≤ S.s.l.length) : ∀ (n : Nat) (S : PS), (itr f n S).1.s.l.length ≤ S.s.l.length
 | 0, S => Nat.le_refl _
 | n + 1, S => by
  unfold itr
  split
  · exact Nat.le_refl _
  · exact Nat.le_trans (b08 h n _) (h S)
theorem a3i : ∀ (d : Nat) (S : PS), (a0b d S).1.s.l.length ≤ S.s.l.length
 | 0, S => a2P _ _
 | d + 1, S => Nat.le_trans (b08 (a6x (a3i d)) _ _) (a2P _ _)
theorem a7U {f : PS → PS × Nd} {S : PS} (h : S.gb = true ∨ S.s.bad = true) (n : Nat) : itr f n S = (S, []) := by
 cases n with
 | zero => rfl
 | succ n => unfold itr; rw [if_pos h]
theorem b2S {f : PS → PS × Nd} {S : PS} (h : ¬ (S.gb = true ∨ S.s.bad = true)) (n : Nat) : itr f (n + 1) S = ((itr f n (f S).1).1, (f S).2 :: (itr f n (f S).1).2) := by
 rw [itr, if_neg h]
end Go.Ox.Gr
namespace Go.Proofs.YtdkejfjcchlnpaaGreat
open Go.RowKit Go.Ox
theorem b09 : Elem Tryz.prog 112 5 (.int .u8 0) 1 1 := Elem.mk' Tryz.underlying112 (by kernel_rfl) rfl (by omega)
theorem madeB (n : Nat) : (madeCells (Value.int .u8 0).cells (n * 1)).toList = (List.replicate n (0 : UInt8)).map a0X := by
 rw [Nat.mul_one, show (Value.int .u8 0).cells = #[Value.int .u8 0] from rfl, toList_madeCells_one, List.map_replicate]
 congr 1
 unfold a0X n8; rfl
theorem b3O (w : World) (A : Option Addr) (n c n' c' : Nat) : (binOp .eql 112 (.slice A n c) (.slice none n' c')).run Tryz.prog w = .ok (.bool A.isNone) w :=
 Lib.run_eql_slice_nil (P := Tryz.prog) w 112 5 A n c n' c' Tryz.underlying112
theorem a6y (v : Value) (l : List UInt8) (w : World) (hb : RB w v l) (hl : l.length ≤ 1099511627776) :
 Calls Tryz.prog 118 #[v] w fun e w' => ∃ v', e = .returned v' ∧ OB 5 w.heap.size w' v' l ∧ Ext w w' := by
 have HB := hid hb;obtain ⟨A, c, rfl, hrd⟩ := hb;have he := b3O
 cases A with
 | none =>
  have hn : l.length = 0 := by have := hrd.nil rfl; have := hrd.nc; omega
  have := List.eq_nil_of_length_eq_zero hn;subst this;have h0 := hrd.nil rfl;subst h0;clear hrd hn
  go_enter Tryz.func118, Tryz.ntmps118
  go_wp2
  go_ret
  exact ⟨_, rfl, World.ownsRow_nil _ _ _ _, Ext.refl _⟩
 | some ad =>
 clear hrd
 have hown : (w.alloc (.cells #[] 5)).ownsRow w.heap.size 5 1 (.slice (some ⟨w.heap.size, 0, none⟩) 0 0) 0 [] :=
  World.ownsRow_lit w #[] 0 (Nat.le_refl _) (by unfold maxLen; omega) rfl
 have HO := hid hown;clear hown
 go_enter Tryz.func118, Tryz.ntmps118
 go_wp2_with (at_builtin; refine a0J rfl b09 _ _ _ rfl w.heap.size _ 0 [] rfl HO.o _ l.length (l.map a0X) rfl (HB.o.ext ((Ext.refl _).alloc _)) (a3S l) (by omega) (by unfold maxLen; omega) (by simp) ?_; intro v' w' ha)
 go_ret
 exact ⟨_, rfl, by have := ha.own; simpa [OB] using this, ha.ext ((Ext.refl _).alloc _) rfl HO.o⟩
open Go.RowKit Go.Ox
theorem a6z (n : Nat) (w : World) (hn : n < 9223372036854775808) :
 Calls Tryz.prog 154 #[.int .i64 n] w fun e w' => e = .returned (.int .i64 (Num.width n : Nat)) ∧ w = w' := by
 have hw : Num.width n ≤ 8 := (Num.a1w 8 n (by omega)).2 (by omega)
 have hd := Num.a6v n;have HD := hid hd;clear hd
 go_enter Tryz.func154, Tryz.ntmps154
 go_wp2
 go_loop [0, 3] (fun a s => ∃ m k : Nat, a = .int .i64 m ∧ s = .int .i64 k ∧ m ≤ n ∧ 1 ≤ k ∧ Num.width n = (if m = 0 then k else k + Num.width m)) (fun a _ => (intOf a).toNat)
 case atStart => exact ⟨n / 256, 1, by go_num, rfl, by omega, Nat.le_refl _, HD.o⟩
 case round =>
 obtain ⟨m, k, rfl, rfl, hm, hk, hwm⟩ := hrel
 by_cases h0 : m = 0
 · subst h0
   rw [if_pos rfl] at hwm;rw [hwm]
   go_wp2
   go_ret
   exact ⟨rfl, rfl⟩
 rw [if_neg h0] at hwm;have hp := Num.a2O m;have hk2 : k ≤ 8 := by omega
 have HW := hid hwm;clear hwm hw;have hpos : (0 : Int) < (m : Int) := by omega
 go_wp2
 refine ⟨⟨m / 256, k + 1, by go_num, by go_num, by omega, by omega, ?_⟩, by simp [intOf]; omega⟩
 rw [HW.o, Num.a6v m]
 split <;> omega
theorem b22 (n k : Nat) : ((n : Int) / 2 ^ (8 * k)) % 256 = n8 (UInt8.ofNat (n / 256 ^ k % 256)) := by
 rw [n8_of (by omega), show (2 : Int) ^ (8 * k) = ((256 ^ k : Nat) : Int) by rw [show 256 = 2 ^ 8 from rfl, ← Nat.pow_mul, Int.natCast_pow]; rfl]
 rw [← Int.natCast_ediv];omega
theorem a8P (n s : Nat) (w : World) (_hn : n < 9223372036854775808) (hs : s ≤ 8) :
 Calls Tryz.prog 155 #[.int .i64 n, .int .i64 s] w fun e w' => ∃ v, e = .returned v ∧ OB 5 w.heap.size w' v (Num.digits n s) ∧ Ext w w' := by
 go_enter Tryz.func155, Tryz.ntmps155
 go_wp2_with (at_make; refine a9d rfl b09 _ (.tmp 7) (.tmp 7) rfl s rfl rfl (by omega) (by unfold maxLen; omega) ?_; intro v3 w3 hv3 ho3 he3; subst hv3)
 have hb3 : OB 5 w.heap.size w3 (.slice (some ⟨w.heap.size, 0, none⟩) s s) (List.replicate s 0) := by
  rw [madeB] at ho3;unfold OB;rw [List.length_replicate]; exact ho3
 clear ho3;have HB3 := hid hb3;have HE3 := hid he3;clear hb3 he3
 go_loopw [11] (fun i wr => ∃ k : Nat, k ≤ s ∧ i = .int .i64 k ∧ OB 5 w.heap.size wr (.slice (some ⟨w.heap.size, 0, none⟩) s s) ((Num.digits n s).take k ++ List.replicate (s - k) 0) ∧ Ext w wr) (fun i _ => s - (intOf i).toNat)
 case atStart => exact ⟨0, Nat.zero_le _, rfl, by simpa using HB3.o, HE3.o⟩
 case round =>
 obtain ⟨k, hk, rfl, hown, hext⟩ := hrel;have HO := hid hown;clear hown
 by_cases hlt : k < s
 · have hdl := Num.a0D s n
   obtain ⟨hc3, hf3, _⟩ := HO.o.at_ (j := k) (by simp; omega)
   have ht := Num.a8K n s hlt _ rfl;have HT := hid ht;clear ht;generalize ((Num.digits n s).take k ++ List.replicate (s - k) 0)[k]'(by simp; omega) = old at *
   have hsb := b22 n (s - 1 - k);generalize UInt8.ofNat (n / 256 ^ (s - 1 - k) % 256) = x at *;have g1 : (k : Int) < (s : Int) := by omega
   have g0 : 0 ≤ (k : Int) := by omega
   generalize wr.heap.size = hsz
   go_wp2
   refine ⟨⟨k + 1, by omega, by go_num, ?_, hext.setCell (p := ⟨w.heap.size, k, none⟩) (Nat.le_refl _) _⟩, by simp [intOf]; omega⟩
   rw [← HT.o];exact HO.o.stored k _
 obtain rfl : k = s := by omega
 have hdl := Num.a0D k n
 have ho : OB 5 w.heap.size wr (.slice (some ⟨w.heap.size, 0, none⟩) k k) (Num.digits n k) := by
  have := HO.o;rwa [Nat.sub_self, List.replicate_zero, List.append_nil, List.take_of_length_le (by omega)] at this
 go_wp2
 go_ret
 exact ⟨_, rfl, ho, hext⟩
theorem OB.lit1 (w : World) (x : Value) (b : UInt8) (h : a0X b = x) : OB 5 w.heap.size (w.alloc (.cells #[x] 5)) (.slice (some ⟨w.heap.size, 0, none⟩) 1 1) [b] := by
 unfold OB;rw [List.map_singleton, h];exact World.ownsRow_lit w _ 1 (Nat.le_refl _) (by unfold maxLen; omega) rfl
theorem OB.lit2 (w : World) (x y : Value) (b d : UInt8) (h : a0X b = x) (h2 : a0X d = y) : OB 5 w.heap.size (w.alloc (.cells #[x, y] 5)) (.slice (some ⟨w.heap.size, 0, none⟩) 2 2) [b, d] := by
 unfold OB;rw [List.map_cons, List.map_singleton, h, h2];exact World.ownsRow_lit w _ 2 (Nat.le_refl _) (by unfold maxLen; omega) rfl
theorem a3O {n : Nat} (h : n < 256) : a0X (UInt8.ofNat n) = .int .u8 (n : Int) := by unfold a0X; rw [n8_of h]
theorem b3P (n : Nat) (w : World) (hn : n < 9223372036854775808) :
 Calls Tryz.prog 117 #[.int .i64 n] w fun e w' => ∃ v, e = .returned (.tuple #[v, .int .i64 0]) ∧ OB 5 w.heap.size w' v (Num.put n) ∧ Ext w w' := by
 have h0 : (0 : Int) ≤ (n : Int) := by omega
 by_cases h1 : n < 240
 · have g1 : (n : Int) < 240 := by omega
   go_enter Tryz.func117, Tryz.ntmps117
   go_wp2
   go_ret2
   refine ⟨_, rfl, ?_, (Ext.refl _).alloc _⟩;rw [Num.put_1 h1];exact OB.lit1 w _ _ (a3O (by omega))
 have HN := hid hn;clear hn
 by_cases h2 : n < 2288
 · obtain ⟨m, rfl⟩ : ∃ m, n = m + 240 := ⟨n - 240, by omega⟩
   have g1 : ¬ ((m + 240 : Nat) : Int) < 240 := by omega
   have g2 : ((m + 240 : Nat) : Int) < 2288 := by omega
   have g3 : ((m + 240 : Nat) : Int) - 240 = (m : Int) := by omega
   have g4 : m < 2048 := by omega
   have HP := hid (Num.put_2 h1 h2);rw [Nat.add_sub_cancel] at HP;clear h1 h2;generalize ((m + 240 : Nat) : Int) = z at *
   go_enter Tryz.func117, Tryz.ntmps117
   go_wp2
   go_ret2
   refine ⟨_, rfl, ?_, (Ext.refl _).alloc _⟩;rw [HP.o];refine OB.lit2 w _ _ _ _ ?_ ?_
   · rw [a3O (by omega)]; congr 1
   rw [a3O (by omega)]; congr 1
 have g1 : ¬ (n : Int) < 240 := by omega
 have g2 : ¬ (n : Int) < 2288 := by omega
 have hn := HN.o;have hwd : Num.width n ≤ 8 := (Num.a1w 8 n (by omega)).2 (by omega)
 have hW := hid (a6z n w hn);have hdl := Num.a0D (Num.width n) n;have hp := Num.put_3 h1 h2;generalize hk : Num.width n = k at *;have HK := hid hk;have HP := hid hp;clear hk hp h1 h2;have hbl : a0X (UInt8.ofNat (246 + k)) = .int .u8 (246 + (k : Int)) := by rw [a3O (by omega)]; congr 1
 go_enter Tryz.func117, Tryz.ntmps117
 go_wp2_with (first
  | (go_at_call 154; refine hW.o.mono ?_; rintro e w' ⟨rfl, rfl⟩)
  | (go_at_call 155; refine (a8P n k _ hn hwd).mono ?_; rintro e w1 ⟨v1, rfl, ho1, he1⟩; have HO1 := hid (RB.rd ho1.rb); have HL1 := hid ((OB.lit1 w _ _ hbl).ext he1).own; rw [hdl] at HO1; clear ho1)
  | (at_builtin; refine a0J rfl b09 _ _ _ rfl w.heap.size _ 1 _ rfl HL1.o _ k _ rfl HO1.o (a3S _) (by omega) (by unfold maxLen; omega) (((Ext.refl w).alloc _).trans he1).size ?_; intro v2 w2 ha))
 go_ret2
 refine ⟨_, rfl, ?_, ha.ext (((Ext.refl w).alloc _).trans he1) rfl HL1.o⟩;rw [HP.o];exact OB.app (l := [UInt8.ofNat (246 + k)]) (by rw [hdl]; exact ha.own)
theorem b23 (n : Nat) (w : World) (hn : n < 9223372036854775808) :
 Calls Tryz.prog 124 #[.int .i64 n] w fun e w' => e = .returned (.int .i64 ((Num.put n).length : Nat)) ∧ w = w' := by
 have h0 : (0 : Int) ≤ (n : Int) := by omega
 have hl := Num.a7a n
 by_cases h1 : n < 240
 · have g1 : (n : Int) < 240 := by omega
   rw [if_pos h1] at hl;rw [hl];clear hl
   go_enter Tryz.func124, Tryz.ntmps124
   go_wp2
   go_ret
   exact ⟨rfl, rfl⟩
 by_cases h2 : n < 2288
 · have g1 : ¬ (n : Int) < 240 := by omega
   have g2 : (n : Int) < 2288 := by omega
   rw [if_neg h1, if_pos h2] at hl;rw [hl];clear hl h1 h2 hn;generalize (n : Int) = z at *
   go_enter Tryz.func124, Tryz.ntmps124
   go_wp2
   go_ret
   exact ⟨rfl, rfl⟩
 have g1 : ¬ (n : Int) < 240 := by omega
 have g2 : ¬ (n : Int) < 2288 := by omega
 have hwd : Num.width n ≤ 8 := (Num.a1w 8 n (by omega)).2 (by omega)
 have hW := hid (a6z n w hn);rw [if_neg h1, if_neg h2] at hl;rw [hl];clear hl h1 h2 hn;generalize Num.width n = k at *
 go_enter Tryz.func124, Tryz.ntmps124
 go_wp2_with (go_at_call 154; refine hW.o.mono ?_; rintro e w' ⟨rfl, rfl⟩)
 go_ret
 exact ⟨by congr 2, rfl⟩
end Go.Proofs.YtdkejfjcchlnpaaGreat
