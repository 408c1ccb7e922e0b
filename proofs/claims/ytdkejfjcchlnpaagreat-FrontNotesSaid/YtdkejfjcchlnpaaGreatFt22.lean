/-
  NumMath, GrRdMath, SlcB, NumPut, NumRead, packed: what the claim needs of them.
-/
import Derived.Test.YtdkejfjcchlnpaaGreatFt09
set_option maxHeartbeats 40000000
open Go.Lib (hid)
set_option linter.unusedVariables false
set_option maxRecDepth 100000
namespace Go.Ox.Num
def digits (n : Nat) : Nat -> List UInt8
 | 0 => []
 | s + 1 => digits (n / 256) s ++ [UInt8.ofNat (n % 256)]
theorem a0P : ∀ (s n : Nat), (digits n s).length = s
 | 0, _ => rfl
 | s + 1, n => by rw [digits, List.length_append, a0P s]; rfl
theorem a7U : ∀ (s n i : Nat) (h : i < (digits n s).length), (digits n s)[i] = UInt8.ofNat (n / 256 ^ (s - 1 - i) % 256)
 | 0, n, i, h => by simp [digits] at h
 | s + 1, n, i, h => by
  rw [a0P] at h;simp only [digits];rw [List.getElem_append]
  split
  . rename_i h2
    rw [a7U s (n / 256) i h2];rw [a0P] at h2;rw [Nat.div_div_eq_div_mul, show s + 1 - 1 - i = (s - 1 - i) + 1 by omega, Nat.pow_succ, Nat.mul_comm 256]
  . rename_i h2
    rw [a0P] at h2;have : i = s := by omega
    subst this;simp
theorem b0K (n s : Nat) {k : Nat} (hk : k < s) (x : UInt8) (hx : x = UInt8.ofNat (n / 256 ^ (s - 1 - k) % 256)) :
 ((digits n s).take k ++ List.replicate (s - k) 0).set k x = (digits n s).take (k + 1) ++ List.replicate (s - (k + 1)) 0 := by
 have hl := a0P s n;have hk' : k < (digits n s).length := by omega
 rw [List.take_succ_eq_append_getElem hk', a7U s n k hk', <- hx];rw [List.set_append_right _ _ (by simp; omega)]
 rw [List.length_take, Nat.min_eq_left (by omega), Nat.sub_self, show s - k = (s - (k + 1)) + 1 by omega, List.replicate_succ, List.set_cons_zero]
 simp
def width (n : Nat) : Nat := if h : n < 256 then 1 else 1 + width (n / 256)
termination_by n
decreasing_by omega
theorem a3I (n : Nat) : 1 <= width n := by
 unfold width; split <;> omega
theorem a5t {n : Nat} (h : n < 256) : width n = 1 := by unfold width; rw [dif_pos h]
theorem a7V {n : Nat} (h : ¬ n < 256) : width n = 1 + width (n / 256) := by rw [width]; rw [dif_neg h]
theorem a7W (n : Nat) : width n = (if n / 256 = 0 then 1 else 1 + width (n / 256)) := by
 by_cases h : n < 256
 . rw [a5t h, if_pos (by omega)]
 rw [a7V h, if_neg (by omega)]
theorem a1W : ∀ (k n : Nat), 1 <= k -> (width n <= k ↔ n < 256 ^ k)
 | 0, _, h => by omega
 | k + 1, n, _ => by
  by_cases h : n < 256
  . rw [a5t h]
    have : 256 <= 256 ^ (k + 1) := by
     rw [Nat.pow_succ];have := Nat.pow_pos (n := k) (show 0 < 256 by omega)
     omega
    constructor <;> intro _ <;> omega
  . rw [a7V h]
    cases k with
    | zero =>
     have := a3I (n / 256);constructor
     . intro h1; omega
     . intro h1; simp at h1; omega
    | succ k =>
     rw [show 1 + width (n / 256) <= k + 1 + 1 ↔ width (n / 256) <= k + 1 by omega, a1W (k + 1) (n / 256) (by omega), Nat.pow_succ 256 (k + 1)]
     rw [Nat.div_lt_iff_lt_mul (by omega)]
def put (n : Nat) : List UInt8 :=
 if n < 240 then [UInt8.ofNat n]
 else if n < 2288 then [UInt8.ofNat (240 + (n - 240) / 256), UInt8.ofNat ((n - 240) % 256)]
 else UInt8.ofNat (246 + width n) :: digits n (width n)
theorem put_1 {n : Nat} (h : n < 240) : put n = [UInt8.ofNat n] := by unfold put; rw [if_pos h]
theorem put_2 {n : Nat} (h : ¬ n < 240) (h2 : n < 2288) : put n = [UInt8.ofNat (240 + (n - 240) / 256), UInt8.ofNat ((n - 240) % 256)] := by unfold put; rw [if_neg h, if_pos h2]
theorem put_3 {n : Nat} (h : ¬ n < 240) (h2 : ¬ n < 2288) : put n = UInt8.ofNat (246 + width n) :: digits n (width n) := by unfold put; rw [if_neg h, if_neg h2]
theorem a8O (n : Nat) : (put n).length = if n < 240 then 1 else if n < 2288 then 2 else 1 + width n := by
 unfold put
 split
 . rfl
 split
 . rfl
 rw [List.length_cons, a0P]; omega
theorem b5q (n : Nat) : (put n).length <= 1 + width n := by
 rw [a8O];have := a3I n
 split
 . omega
 split <;> omega
def val (l : List UInt8) : Nat := l.foldl (fun n c => n * 256 + c.toNat) 0
theorem b6i : val [] = 0 := rfl
theorem a9H (l : List UInt8) (c : UInt8) : val (l ++ [c]) = val l * 256 + c.toNat := by simp [val]
theorem a6n : ∀ (s n : Nat), val (digits n s) = n % 256 ^ s
 | 0, n => by simp [digits, val, Nat.mod_one]
 | s + 1, n => by
  rw [digits, a9H, a6n s, UInt8.toNat_ofNat_of_lt' (by have := Nat.mod_lt n (show 0 < 256 by omega); simpa using this)]
  rw [Nat.pow_succ, Nat.mul_comm (256 ^ s) 256, Nat.mod_mul, Nat.mul_comm, Nat.add_comm]
theorem a8P : ∀ (l : List UInt8) (n : Nat), l.foldl (fun n c => n * 256 + c.toNat) n = n * 256 ^ l.length + val l
 | [], n => by simp [val]
 | b :: l, n => by
  rw [List.foldl_cons, a8P l, show val (b :: l) = l.foldl (fun n c => n * 256 + c.toNat) (0 * 256 + b.toNat) from rfl, a8P l, List.length_cons, Nat.pow_succ, Nat.add_mul, Nat.zero_mul, Nat.zero_add]
  have : n * 256 * 256 ^ l.length = n * (256 ^ l.length * 256) := by rw [Nat.mul_assoc, Nat.mul_comm 256]
  omega
theorem a1R (l r : List UInt8) : val (l ++ r) = val l * 256 ^ r.length + val r := by
 show (l ++ r).foldl (fun n c => n * 256 + c.toNat) 0 = _
 rw [List.foldl_append, a8P];rfl
theorem a6o : ∀ (l : List UInt8) (n : Nat), l.foldl (fun n c => n * 256 + c.toNat) n < (n + 1) * 256 ^ l.length
 | [], n => by simp
 | c :: l, n => by
  have := a6o l (n * 256 + c.toNat);have hc := c.toNat_lt;rw [List.foldl_cons, List.length_cons, Nat.pow_succ];refine Nat.lt_of_lt_of_le this ?_;rw [Nat.mul_comm (256 ^ l.length) 256, <- Nat.mul_assoc];exact Nat.mul_le_mul_right _ (by omega)
theorem b5r (l : List UInt8) : val l < 256 ^ l.length := by
 have := a6o l 0;simpa [val] using this
attribute [irreducible] digits put val
end Go.Ox.Num
namespace Go.Ox.Num
structure St where
 l : List UInt8
 bad : Bool
def a2W (s : St) : St := ⟨s.l, true⟩
def a0T (n : Int) (s : St) : St × List UInt8 :=
 if s.bad = true ∨ n < 0 ∨ (s.l.length : Int) < n then (a2W s, []) else (⟨s.l.drop n.toNat, false⟩, s.l.take n.toNat)
def a0b (n : Int) (s : St) : St × Nat :=
 if n < 1 ∨ 8 < n then (a2W s, 0)
 else if (a0T n s).1.bad = true ∨ 9223372036854775807 < val (a0T n s).2 then (a2W (a0T n s).1, 0)
 else ((a0T n s).1, val (a0T n s).2)
def a4K (n : Nat) (is : Bool) (s : St) : St × Nat := if s.bad = true ∨ is = false then (a2W s, 0) else (s, n)
def a0C (s : St) : St × Nat :=
 if (a0b 1 s).2 < 240 then a0b 1 s
 else if (a0b 1 s).2 < 248 then
  a4K (240 + ((a0b 1 s).2 - 240) * 256 + (a0b 1 (a0b 1 s).1).2) true (a0b 1 (a0b 1 s).1).1
 else if (a0b 1 s).2 <= 254 then
  a4K (a0b ((a0b 1 s).2 - 246 : Nat) (a0b 1 s).1).2 (decide (2288 <= (a0b ((a0b 1 s).2 - 246 : Nat) (a0b 1 s).1).2) && (put (a0b ((a0b 1 s).2 - 246 : Nat) (a0b 1 s).1).2).length == (a0b 1 s).2 - 245) (a0b ((a0b 1 s).2 - 246 : Nat) (a0b 1 s).1).1
 else (a2W (a0b 1 s).1, 0)
theorem b28 {n : Int} {s : St} (h : s.bad = true ∨ n < 0 ∨ (s.l.length : Int) < n) : a0T n s = (a2W s, []) := if_pos h
theorem a6p {n : Nat} {s : St} (h0 : s.bad = false) (h : n <= s.l.length) : a0T n s = (⟨s.l.drop n, false⟩, s.l.take n) := by
 unfold a0T;rw [if_neg (by rw [h0]; simp; omega)]
 simp
theorem b0L (n : Int) (s : St) : (a0T n s).1.l.length <= s.l.length := by
 unfold a0T a2W
 split
 . exact Nat.le_refl _
 simp
theorem a6q (n : Int) (s : St) : ((a0T n s).2.length : Int) <= n ∨ (a0T n s).2 = [] := by
 unfold a0T
 split
 . exact .inr rfl
 left
 simp; omega
theorem a3e (n : Int) (s : St) : (a0b n s).1.l.length <= s.l.length := by
 unfold a0b a2W
 split
 . exact Nat.le_refl _
 split <;> exact b0L n s
theorem b0M (n : Int) (s : St) : (a0b n s).2 <= 9223372036854775807 := by
 unfold a0b
 split
 . simp
 split
 . simp
 rename_i h; simp only; omega
theorem b4l {l : List UInt8} {k : Nat} (h : k < l.length) : val (l.take (k + 1)) = val (l.take k) * 256 + l[k].toNat := by
 rw [List.take_succ_eq_append_getElem h, a9H]
theorem val_one (b : UInt8) : val [b] = b.toNat := by simp [val]
theorem b29 {n : Int} {s : St} (h : n < 1 ∨ 8 < n) : a0b n s = (a2W s, 0) := if_pos h
theorem b0N {n : Int} {s : St} (h : ¬ (n < 1 ∨ 8 < n)) (h2 : (a0T n s).1.bad = true ∨ 9223372036854775807 < val (a0T n s).2) : a0b n s = (a2W (a0T n s).1, 0) := by
 unfold a0b; rw [if_neg h, if_pos h2]
theorem b2a {n : Int} {s : St} (h : ¬ (n < 1 ∨ 8 < n)) (h2 : ¬ ((a0T n s).1.bad = true ∨ 9223372036854775807 < val (a0T n s).2)) : a0b n s = ((a0T n s).1, val (a0T n s).2) := by
 unfold a0b; rw [if_neg h, if_neg h2]
theorem b0O {l : List UInt8} (h : l.length <= 1) : val l < 256 := by
 have := b5r l;have h2 : 256 ^ l.length <= 256 ^ 1 := Nat.pow_le_pow_right (by omega) h
 omega
theorem a5u (s : St) : (a0b 1 s).2 < 256 := by
 have h := a6q 1 s
 have hl : (a0T 1 s).2.length <= 1 := by
  rcases h with h | h
  . omega
  simp [h]
 have := b0O hl;unfold a0b
 split
 . simp
 split
 . simp
 exact this
theorem numP_1 {s s1 : St} {c : Nat} (h : a0b 1 s = (s1, c)) (hc : c < 240) : a0C s = (s1, c) := by
 unfold a0C; rw [h]; simp [hc]
theorem numP_2 {s s1 s2 : St} {c d : Nat} (h : a0b 1 s = (s1, c)) (h0 : ¬ c < 240) (hc : c < 248) (h2 : a0b 1 s1 = (s2, d)) : a0C s = a4K (240 + (c - 240) * 256 + d) true s2 := by
 unfold a0C; rw [h]; simp [h0, hc, h2]
theorem numP_3 {s s1 s2 : St} {c n : Nat} (h : a0b 1 s = (s1, c)) (h0 : ¬ c < 240) (h1 : ¬ c < 248) (hc : c <= 254) (h2 : a0b (c - 246 : Nat) s1 = (s2, n)) :
 a0C s = a4K n (decide (2288 <= n) && (put n).length == c - 245) s2 := by
 unfold a0C; rw [h]; simp [h0, h1, hc, h2]
theorem numP_4 {s s1 : St} {c : Nat} (h : a0b 1 s = (s1, c)) (hc : ¬ c <= 254) : a0C s = (a2W s1, 0) := by
 unfold a0C; rw [h]; simp [show ¬ c < 240 by omega, show ¬ c < 248 by omega, hc]
theorem a7X (n : Nat) (is : Bool) (s : St) : (a4K n is s).1.l.length <= s.l.length := by
 unfold a4K a2W; split <;> exact Nat.le_refl _
theorem a1q (s : St) : (a0C s).1.l.length <= s.l.length := by
 have h1 := a3e 1 s;unfold a0C
 split
 . exact h1
 split
 . exact Nat.le_trans (a7X _ _ _) (Nat.le_trans (a3e _ _) h1)
 split
 . exact Nat.le_trans (a7X _ _ _) (Nat.le_trans (a3e _ _) h1)
 exact h1
theorem a6r {l r : List UInt8} (h1 : 1 <= l.length) (h2 : l.length <= 8) (h3 : val l <= 9223372036854775807) : a0b l.length ⟨l ++ r, false⟩ = (⟨r, false⟩, val l) := by
 unfold a0b;rw [if_neg (by omega), a6p rfl (by simp)]
 rw [if_neg (by simp; omega)]
 simp
theorem a3f (b : UInt8) (r : List UInt8) : a0b 1 ⟨b :: r, false⟩ = (⟨r, false⟩, b.toNat) := by
 have := a6r (l := [b]) (r := r) (by simp) (by simp) (by rw [val_one]; have := b.toNat_lt; omega)
 rw [val_one] at this;exact this
theorem a2z {n : Nat} (hn : n < 9223372036854775808) (r : List UInt8) : a0C ⟨put n ++ r, false⟩ = (⟨r, false⟩, n) := by
 have hb : ∀ m : Nat, m < 256 -> (UInt8.ofNat m).toNat = m := fun m h => UInt8.toNat_ofNat_of_lt' (by simpa using h)
 by_cases h1 : n < 240
 . rw [put_1 h1]
   unfold a0C;rw [List.singleton_append, a3f, hb n (by omega)]
   simp only [if_pos h1]
 by_cases h2 : n < 2288
 . rw [put_2 h1 h2]
   unfold a0C;rw [List.cons_append, a3f, hb _ (by omega)]
   simp only [List.singleton_append, a3f];rw [if_neg (by omega), if_pos (by omega), hb _ (by omega)]
   unfold a4K;rw [if_neg (by simp)]
   have e : 240 + (240 + (n - 240) / 256 - 240) * 256 + (n - 240) % 256 = n := by omega
   rw [e]
 have hw := (a1W 8 n (by omega)).2 (by omega)
 have hw1 : ¬ width n <= 1 := fun h => by have := (a1W 1 n (by omega)).1 h; omega
 have hlen : (put n).length = 1 + width n := by rw [a8O, if_neg h1, if_neg h2]
 have hv : val (digits n (width n)) = n := by
  rw [a6n, Nat.mod_eq_of_lt ((a1W _ n (a3I n)).1 (Nat.le_refl _))]
 have hd := a0P (width n) n;have hf := a6r (l := digits n (width n)) (r := r) (by omega) (by omega) (by rw [hv]; omega)
 rw [hd, hv] at hf;have hp := put_3 h1 h2;unfold a0C;rw [hp, List.cons_append, a3f, hb _ (by omega)]
 simp only;rw [if_neg (by omega), if_neg (by omega), if_pos (by omega)]
 rw [show 246 + width n - 246 = width n by omega, hf]
 unfold a4K;simp only;rw [hlen];rw [if_neg (by simp; omega)]
open Go.Op
def hd (n : Nat) : Nat := if n < 240 then n else if n < 2288 then 240 + (n - 240) / 256 else 246 + width n
open Go.Op
end Go.Ox.Num
namespace Go.Ox.Gr
def a0B (l : List Int) : List UInt8 := l.flatMap fun x => Num.put x.toNat
theorem b6j (l : List Int) {k : Nat} (h : k < l.length) : a0B (l.take (k + 1)) = a0B (l.take k) ++ Num.put l[k].toNat := by
 unfold a0B;rw [List.take_succ_eq_append_getElem h, List.flatMap_append]; simp
theorem a2A {n : Nat} (h : n < 9223372036854775808) : (Num.put n).length <= 9 := by
 have h1 := Num.b5q n;have h2 := (Num.a1W 8 n (by omega)).2 (by omega)
 omega
theorem a1y : ∀ (l : List Int), (∀ x ∈ l, 0 <= x ∧ x < 9223372036854775808) -> (a0B l).length <= 9 * l.length
 | [], _ => Nat.le_refl _
 | x :: l, h => by
  have h1 := a1y l fun y hy => h y (List.mem_cons_of_mem _ hy)
  have h2 := h x (List.mem_cons_self ..);have h3 := a2A (n := x.toNat) (by omega)
  rw [show a0B (x :: l) = Num.put x.toNat ++ a0B l from rfl, List.length_append, List.length_cons];omega
def okI (x : Int) : Prop := 0 <= x ∧ x < 9223372036854775808
def a5T (n : Nd) : List UInt8 := a0B ([n.op, (n.ins.length : Int)]) ++ (a0B n.ins ++ a0B [n.kind, n.fa, n.a])
def a42 : Nat -> List Nd -> List UInt8
 | 0, l => Num.put l.length
 | d + 1, l => Num.put l.length ++ l.flatMap fun n => a5T n ++ a42 d n.body
def grL (g : G) : List UInt8 := a42 2 g.1 ++ Num.put g.2.toNat
def b5s : Nat -> List Nd -> Prop
 | 0, l => l = []
 | d + 1, l => l.length <= 100 ∧ ∀ n ∈ l, (okI n.op ∧ okI n.kind ∧ okI n.fa ∧ okI n.a ∧ n.ins.length <= 100 ∧ ∀ x ∈ n.ins, okI x) ∧ b5s d n.body
theorem b5s.len {d : Nat} {l : List Nd} (h : b5s d l) : l.length <= 100 := by
 cases d with
 | zero => cases h; simp
 | succ d => exact h.1
theorem ndsL_s (d : Nat) (l : List Nd) {k : Nat} (h : k < l.length) : (l.take (k + 1)).flatMap (fun n => a5T n ++ a42 d n.body) = (l.take k).flatMap (fun n => a5T n ++ a42 d n.body) ++ (a5T l[k] ++ a42 d l[k].body) := by
 rw [List.take_succ_eq_append_getElem h, List.flatMap_append]; simp
def b2b : Nat -> Nat
 | 0 => 9
 | d + 1 => 9 + 100 * (1000 + b2b d)
theorem a9I {n : Nd} (h1 : okI n.op) (h2 : okI n.kind) (h3 : okI n.fa) (h4 : okI n.a) (h5 : n.ins.length <= 100) (h6 : ∀ x ∈ n.ins, okI x) : (a5T n).length <= 1000 := by
 have a1 := a1y [n.op, (n.ins.length : Int)] (by intro x hx; simp at hx; rcases hx with rfl | rfl; exact h1; omega)
 have a2 := a1y n.ins h6;have a3 := a1y [n.kind, n.fa, n.a] (by intro x hx; simp at hx; rcases hx with rfl | rfl | rfl; exact h2; exact h3; exact h4)
 unfold a5T;rw [List.length_append, List.length_append];simp only [List.length_cons, List.length_nil] at a1 a3;omega
theorem a3r {α : Type} (f : α -> List UInt8) (c : Nat) : ∀ (l : List α), (∀ x ∈ l, (f x).length <= c) -> (l.flatMap f).length <= l.length * c
 | [], _ => by simp
 | x :: l, h => by
  have h1 := a3r f c l fun y hy => h y (List.mem_cons_of_mem _ hy)
  have h2 := h x (List.mem_cons_self ..);rw [List.flatMap_cons, List.length_append, List.length_cons, Nat.add_mul];omega
theorem a74 : ∀ {d : Nat} {l : List Nd}, b5s d l -> (a42 d l).length <= b2b d
 | 0, l, h => a2A (by have := h.len; omega)
 | d + 1, l, h => by
  have h0 := a2A (n := l.length) (by have := h.len; omega)
  have h1 := a3r (fun n => a5T n ++ a42 d n.body) (1000 + b2b d) l (fun n hn => by
   obtain ⟨⟨q1, q2, q3, q4, q5, q6⟩, q7⟩ := h.2 n hn;have a := a9I q1 q2 q3 q4 q5 q6;have b := a74 q7
   rw [List.length_append]; omega)
  have h2 := h.1;have h3 : l.length * (1000 + b2b d) <= 100 * (1000 + b2b d) := Nat.mul_le_mul_right _ h2;unfold a42 b2b;rw [List.length_append];omega
theorem b2c {d : Nat} (h : d <= 2) : b2b d <= 20000000 := by
 match d, h with
 | 0, _ => decide
 | 1, _ => decide
 | 2, _ => decide
open Go.Ox.Num (St a0C a2W)
structure PS where
 s : St
 gb : Bool
def rdS (s : St) : Nat -> St
 | 0 => s
 | j + 1 => (a0C (rdS s j)).1
def rdL (s : St) : Nat -> List Int
 | 0 => []
 | j + 1 => rdL s j ++ [((a0C (rdS s j)).2 : Int)]
theorem b2d (s : St) : ∀ j, (rdL s j).length = j
 | 0 => rfl
 | j + 1 => by rw [rdL, List.length_append, b2d s j]; rfl
theorem a8Q (s : St) : ∀ j, (rdS s j).l.length <= s.l.length
 | 0 => Nat.le_refl _
 | j + 1 => Nat.le_trans (Num.a1q _) (a8Q s j)
def a2K (most : Int) (S : PS) : PS × Nat :=
 if most < ((a0C S.s).2 : Int) ∨ (a0C S.s).1.bad = true then (⟨(a0C S.s).1, true⟩, 0) else (⟨(a0C S.s).1, S.gb⟩, (a0C S.s).2)
def a1I (body : PS -> PS × List Nd) (S : PS) : PS × Nd :=
 let s1 := (a0C S.s).1
 let c := a2K 2 ⟨s1, S.gb⟩
 let s2 := rdS c.1.s c.2
 let s3 := (a0C s2).1
 let s4 := (a0C s3).1
 let s5 := (a0C s4).1
 let b := body ⟨s5, c.1.gb⟩
 (b.1, .mk ((a0C S.s).2 : Nat) (rdL c.1.s c.2) ((a0C s2).2 : Nat) ((a0C s3).2 : Nat) ((a0C s4).2 : Nat) b.2)
def itr (f : PS -> PS × Nd) : Nat -> PS -> PS × List Nd
 | 0, S => (S, [])
 | n + 1, S => if S.gb = true ∨ S.s.bad = true then (S, []) else ((itr f n (f S).1).1, (f S).2 :: (itr f n (f S).1).2)
def a0f : Nat -> PS -> PS × List Nd
 | 0, S => ((a2K 0 S).1, [])
 | d + 1, S => itr (a1I (a0f d)) (a2K 32 S).2 (a2K 32 S).1
def b6k (b : List UInt8) : G × Bool :=
 let r := a0f 2 ⟨⟨b, false⟩, false⟩
 let g : G := (r.2, ((a0C r.1.s).2 : Int))
 (g, !r.1.gb && (!(a0C r.1.s).1.bad && ((a0C r.1.s).1.l.isEmpty && gOk g)))
theorem a3J (m : Int) (S : PS) : (a2K m S).1.s.l.length <= S.s.l.length := by
 unfold a2K
 split <;> exact Num.a1q _
theorem a8R (m : Int) (S : PS) (h : 0 <= m) : ((a2K m S).2 : Int) <= m := by
 unfold a2K
 split
 . exact h
 omega
theorem a7Y {body : PS -> PS × List Nd} (h : ∀ S, (body S).1.s.l.length <= S.s.l.length) (S : PS) : (a1I body S).1.s.l.length <= S.s.l.length := by
 unfold a1I;refine Nat.le_trans (h _) ?_;refine Nat.le_trans (Num.a1q _) (Nat.le_trans (Num.a1q _) (Nat.le_trans (Num.a1q _) (Nat.le_trans (a8Q _ _) (Nat.le_trans (a3J _ _) (Num.a1q _)))))
theorem b2e {f : PS -> PS × Nd} (h : ∀ S, (f S).1.s.l.length <= S.s.l.length) : ∀ (n : Nat) (S : PS), (itr f n S).1.s.l.length <= S.s.l.length
 | 0, S => Nat.le_refl _
 | n + 1, S => by
  unfold itr
  split
  . exact Nat.le_refl _
  . exact Nat.le_trans (b2e h n _) (h S)
theorem a4g : ∀ (d : Nat) (S : PS), (a0f d S).1.s.l.length <= S.s.l.length
 | 0, S => a3J _ _
 | d + 1, S => Nat.le_trans (b2e (a7Y (a4g d)) _ _) (a3J _ _)
theorem a9J {f : PS -> PS × Nd} {S : PS} (h : S.gb = true ∨ S.s.bad = true) (n : Nat) : itr f n S = (S, []) := by
 cases n with
 | zero => rfl
 | succ n => unfold itr; rw [if_pos h]
theorem b5t {f : PS -> PS × Nd} {S : PS} (h : ¬ (S.gb = true ∨ S.s.bad = true)) (n : Nat) : itr f (n + 1) S = ((itr f n (f S).1).1, (f S).2 :: (itr f n (f S).1).2) := by
 rw [itr, if_neg h]
end Go.Ox.Gr
namespace Go.Proofs.YtdkejfjcchlnpaaGreat
open Go.RowKit Go.Ox
theorem b2f : Elem Tryz.prog 112 5 (.int .u8 0) 1 1 := Elem.mk' Tryz.underlying112 (by kernel_rfl) rfl (by omega)
theorem madeB (n : Nat) : (madeCells (Value.int .u8 0).cells (n * 1)).toList = (List.replicate n (0 : UInt8)).map a1h := by
 rw [Nat.mul_one, show (Value.int .u8 0).cells = #[Value.int .u8 0] from rfl, toList_madeCells_one, List.map_replicate]
 congr 1
 unfold a1h n8; rfl
theorem b6l (w : World) (A : Option Addr) (n c n' c' : Nat) : (binOp .eql 112 (.slice A n c) (.slice none n' c')).run Tryz.prog w = .ok (.bool A.isNone) w :=
 Lib.run_eql_slice_nil (P := Tryz.prog) w 112 5 A n c n' c' Tryz.underlying112
theorem a7Z (v : Value) (l : List UInt8) (w : World) (hb : RB w v l) (hl : l.length <= 1099511627776) :
 Calls Tryz.prog 118 #[v] w fun e w' => ∃ v', e = .returned v' ∧ OB 5 w.heap.size w' v' l ∧ Ext w w' := by
 have HB := hid hb;obtain ⟨A, c, rfl, hrd⟩ := hb;have he := b6l
 cases A with
 | none =>
  have hn : l.length = 0 := by have := hrd.nil rfl; have := hrd.nc; omega
  have := List.eq_nil_of_length_eq_zero hn;subst this;have h0 := hrd.nil rfl;subst h0;clear hrd hn
  go_enter Tryz.func118, Tryz.ntmps118
  go_wp2
  go_ret
  exact ⟨_, rfl, World.ownsRow_nil _ _ _ _, Ext.refl _⟩
 | some ad =>
 clear hrd
 have hown : (w.alloc (.cells #[] 5)).ownsRow w.heap.size 5 1 (.slice (some ⟨w.heap.size, 0, none⟩) 0 0) 0 [] :=
  World.ownsRow_lit w #[] 0 (Nat.le_refl _) (by unfold maxLen; omega) rfl
 have HO := hid hown;clear hown
 go_enter Tryz.func118, Tryz.ntmps118
 go_wp2_with (at_builtin; refine a0v rfl b2f _ _ _ rfl w.heap.size _ 0 [] rfl HO.o _ l.length (l.map a1h) rfl (HB.o.ext ((Ext.refl _).alloc _)) (a4X l) (by omega) (by unfold maxLen; omega) (by simp) ?_; intro v' w' ha)
 go_ret
 exact ⟨_, rfl, by have := ha.own; simpa [OB] using this, ha.ext ((Ext.refl _).alloc _) rfl HO.o⟩
open Go.RowKit Go.Ox
theorem a81 (n : Nat) (w : World) (hn : n < 9223372036854775808) :
 Calls Tryz.prog 154 #[.int .i64 n] w fun e w' => e = .returned (.int .i64 (Num.width n : Nat)) ∧ w = w' := by
 have hw : Num.width n <= 8 := (Num.a1W 8 n (by omega)).2 (by omega)
 have hd := Num.a7W n;have HD := hid hd;clear hd
 go_enter Tryz.func154, Tryz.ntmps154
 go_wp2
 go_loop [0, 3] (fun a s => ∃ m k : Nat, a = .int .i64 m ∧ s = .int .i64 k ∧ m <= n ∧ 1 <= k ∧ Num.width n = (if m = 0 then k else k + Num.width m)) (fun a _ => (intOf a).toNat)
 case atStart => exact ⟨n / 256, 1, by go_num, rfl, by omega, Nat.le_refl _, HD.o⟩
 case round =>
 obtain ⟨m, k, rfl, rfl, hm, hk, hwm⟩ := hrel
 by_cases h0 : m = 0
 . subst h0
   rw [if_pos rfl] at hwm;rw [hwm]
   go_wp2
   go_ret
   exact ⟨rfl, rfl⟩
 rw [if_neg h0] at hwm;have hp := Num.a3I m;have hk2 : k <= 8 := by omega
 have HW := hid hwm;clear hwm hw;have hpos : (0 : Int) < (m : Int) := by omega
 go_wp2
 refine ⟨⟨m / 256, k + 1, by go_num, by go_num, by omega, by omega, ?_⟩, by simp [intOf]; omega⟩
 rw [HW.o, Num.a7W m]
 split <;> omega
theorem b4m (n k : Nat) : ((n : Int) / 2 ^ (8 * k)) % 256 = n8 (UInt8.ofNat (n / 256 ^ k % 256)) := by
 rw [n8_of (by omega), show (2 : Int) ^ (8 * k) = ((256 ^ k : Nat) : Int) by rw [show 256 = 2 ^ 8 from rfl, <- Nat.pow_mul, Int.natCast_pow]; rfl]
 rw [<- Int.natCast_ediv];omega
theorem b0P (n s : Nat) (w : World) (_hn : n < 9223372036854775808) (hs : s <= 8) :
 Calls Tryz.prog 155 #[.int .i64 n, .int .i64 s] w fun e w' => ∃ v, e = .returned v ∧ OB 5 w.heap.size w' v (Num.digits n s) ∧ Ext w w' := by
 go_enter Tryz.func155, Tryz.ntmps155
 go_wp2_with (at_make; refine a4Y rfl b2f _ (.tmp 7) (.tmp 7) rfl s rfl rfl (by omega) (by unfold maxLen; omega) ?_; intro v3 w3 hv3 ho3 he3; subst hv3)
 have hb3 : OB 5 w.heap.size w3 (.slice (some ⟨w.heap.size, 0, none⟩) s s) (List.replicate s 0) := by
  rw [madeB] at ho3;unfold OB;rw [List.length_replicate]; exact ho3
 clear ho3;have HB3 := hid hb3;have HE3 := hid he3;clear hb3 he3
 go_loopw [11] (fun i wr => ∃ k : Nat, k <= s ∧ i = .int .i64 k ∧ OB 5 w.heap.size wr (.slice (some ⟨w.heap.size, 0, none⟩) s s) ((Num.digits n s).take k ++ List.replicate (s - k) 0) ∧ Ext w wr) (fun i _ => s - (intOf i).toNat)
 case atStart => exact ⟨0, Nat.zero_le _, rfl, by simpa using HB3.o, HE3.o⟩
 case round =>
 obtain ⟨k, hk, rfl, hown, hext⟩ := hrel;have HO := hid hown;clear hown
 by_cases hlt : k < s
 . have hdl := Num.a0P s n
   obtain ⟨hc3, hf3, _⟩ := HO.o.at_ (j := k) (by simp; omega)
   have ht := Num.b0K n s hlt _ rfl;have HT := hid ht;clear ht;generalize ((Num.digits n s).take k ++ List.replicate (s - k) 0)[k]'(by simp; omega) = old at *
   have hsb := b4m n (s - 1 - k);generalize UInt8.ofNat (n / 256 ^ (s - 1 - k) % 256) = x at *;have g1 : (k : Int) < (s : Int) := by omega
   have g0 : 0 <= (k : Int) := by omega
   generalize wr.heap.size = hsz
   go_wp2
   refine ⟨⟨k + 1, by omega, by go_num, ?_, hext.setCell (p := ⟨w.heap.size, k, none⟩) (Nat.le_refl _) _⟩, by simp [intOf]; omega⟩
   rw [<- HT.o];exact HO.o.stored k _
 obtain rfl : k = s := by omega
 have hdl := Num.a0P k n
 have ho : OB 5 w.heap.size wr (.slice (some ⟨w.heap.size, 0, none⟩) k k) (Num.digits n k) := by
  have := HO.o;rwa [Nat.sub_self, List.replicate_zero, List.append_nil, List.take_of_length_le (by omega)] at this
 go_wp2
 go_ret
 exact ⟨_, rfl, ho, hext⟩
theorem OB.lit1 (w : World) (x : Value) (b : UInt8) (h : a1h b = x) : OB 5 w.heap.size (w.alloc (.cells #[x] 5)) (.slice (some ⟨w.heap.size, 0, none⟩) 1 1) [b] := by
 unfold OB;rw [List.map_singleton, h];exact World.ownsRow_lit w _ 1 (Nat.le_refl _) (by unfold maxLen; omega) rfl
theorem OB.lit2 (w : World) (x y : Value) (b d : UInt8) (h : a1h b = x) (h2 : a1h d = y) : OB 5 w.heap.size (w.alloc (.cells #[x, y] 5)) (.slice (some ⟨w.heap.size, 0, none⟩) 2 2) [b, d] := by
 unfold OB;rw [List.map_cons, List.map_singleton, h, h2];exact World.ownsRow_lit w _ 2 (Nat.le_refl _) (by unfold maxLen; omega) rfl
theorem a4S {n : Nat} (h : n < 256) : a1h (UInt8.ofNat n) = .int .u8 (n : Int) := by unfold a1h; rw [n8_of h]
theorem b6m (n : Nat) (w : World) (hn : n < 9223372036854775808) :
 Calls Tryz.prog 117 #[.int .i64 n] w fun e w' => ∃ v, e = .returned (.tuple #[v, .int .i64 0]) ∧ OB 5 w.heap.size w' v (Num.put n) ∧ Ext w w' := by
 have h0 : (0 : Int) <= (n : Int) := by omega
 by_cases h1 : n < 240
 . have g1 : (n : Int) < 240 := by omega
   go_enter Tryz.func117, Tryz.ntmps117
   go_wp2
   go_ret2
   refine ⟨_, rfl, ?_, (Ext.refl _).alloc _⟩;rw [Num.put_1 h1];exact OB.lit1 w _ _ (a4S (by omega))
 have HN := hid hn;clear hn
 by_cases h2 : n < 2288
 . obtain ⟨m, rfl⟩ : ∃ m, n = m + 240 := ⟨n - 240, by omega⟩
   have g1 : ¬ ((m + 240 : Nat) : Int) < 240 := by omega
   have g2 : ((m + 240 : Nat) : Int) < 2288 := by omega
   have g3 : ((m + 240 : Nat) : Int) - 240 = (m : Int) := by omega
   have g4 : m < 2048 := by omega
   have HP := hid (Num.put_2 h1 h2);rw [Nat.add_sub_cancel] at HP;clear h1 h2;generalize ((m + 240 : Nat) : Int) = z at *
   go_enter Tryz.func117, Tryz.ntmps117
   go_wp2
   go_ret2
   refine ⟨_, rfl, ?_, (Ext.refl _).alloc _⟩;rw [HP.o];refine OB.lit2 w _ _ _ _ ?_ ?_
   . rw [a4S (by omega)]; congr 1
   rw [a4S (by omega)]; congr 1
 have g1 : ¬ (n : Int) < 240 := by omega
 have g2 : ¬ (n : Int) < 2288 := by omega
 have hn := HN.o;have hwd : Num.width n <= 8 := (Num.a1W 8 n (by omega)).2 (by omega)
 have hW := hid (a81 n w hn);have hdl := Num.a0P (Num.width n) n;have hp := Num.put_3 h1 h2;generalize hk : Num.width n = k at *;have HK := hid hk;have HP := hid hp;clear hk hp h1 h2;have hbl : a1h (UInt8.ofNat (246 + k)) = .int .u8 (246 + (k : Int)) := by rw [a4S (by omega)]; congr 1
 go_enter Tryz.func117, Tryz.ntmps117
 go_wp2_with (first
  | (go_at_call 154; refine hW.o.mono ?_; rintro e w' ⟨rfl, rfl⟩)
  | (go_at_call 155; refine (b0P n k _ hn hwd).mono ?_; rintro e w1 ⟨v1, rfl, ho1, he1⟩; have HO1 := hid (RB.rd ho1.rb); have HL1 := hid ((OB.lit1 w _ _ hbl).ext he1).own; rw [hdl] at HO1; clear ho1)
  | (at_builtin; refine a0v rfl b2f _ _ _ rfl w.heap.size _ 1 _ rfl HL1.o _ k _ rfl HO1.o (a4X _) (by omega) (by unfold maxLen; omega) (((Ext.refl w).alloc _).trans he1).size ?_; intro v2 w2 ha))
 go_ret2
 refine ⟨_, rfl, ?_, ha.ext (((Ext.refl w).alloc _).trans he1) rfl HL1.o⟩;rw [HP.o];exact OB.app (l := [UInt8.ofNat (246 + k)]) (by rw [hdl]; exact ha.own)
theorem b4n (n : Nat) (w : World) (hn : n < 9223372036854775808) :
 Calls Tryz.prog 124 #[.int .i64 n] w fun e w' => e = .returned (.int .i64 ((Num.put n).length : Nat)) ∧ w = w' := by
 have h0 : (0 : Int) <= (n : Int) := by omega
 have hl := Num.a8O n
 by_cases h1 : n < 240
 . have g1 : (n : Int) < 240 := by omega
   rw [if_pos h1] at hl;rw [hl];clear hl
   go_enter Tryz.func124, Tryz.ntmps124
   go_wp2
   go_ret
   exact ⟨rfl, rfl⟩
 by_cases h2 : n < 2288
 . have g1 : ¬ (n : Int) < 240 := by omega
   have g2 : (n : Int) < 2288 := by omega
   rw [if_neg h1, if_pos h2] at hl;rw [hl];clear hl h1 h2 hn;generalize (n : Int) = z at *
   go_enter Tryz.func124, Tryz.ntmps124
   go_wp2
   go_ret
   exact ⟨rfl, rfl⟩
 have g1 : ¬ (n : Int) < 240 := by omega
 have g2 : ¬ (n : Int) < 2288 := by omega
 have hwd : Num.width n <= 8 := (Num.a1W 8 n (by omega)).2 (by omega)
 have hW := hid (a81 n w hn);rw [if_neg h1, if_neg h2] at hl;rw [hl];clear hl h1 h2 hn;generalize Num.width n = k at *
 go_enter Tryz.func124, Tryz.ntmps124
 go_wp2_with (go_at_call 154; refine hW.o.mono ?_; rintro e w' ⟨rfl, rfl⟩)
 go_ret
 exact ⟨by congr 2, rfl⟩
end Go.Proofs.YtdkejfjcchlnpaaGreat
namespace Go.Proofs.YtdkejfjcchlnpaaGreat
open Go.RowKit Go.Ox
abbrev NR (K : Nat -> Prop) (w : World) (g : Nat) (s : Num.St) : Prop := Rdr K 184 w g s.l s.bad
variable {K : Nat -> Prop}
theorem a2X (g : Nat) (s : Num.St) (w : World) (h0 : NR K w g s) :
 Calls Tryz.prog 120 #[.pointer (some ⟨g, 0, none⟩)] w fun e w' => e = .returned (.bool s.bad) ∧ w = w' := by
 obtain ⟨hc1, hf1, hf0⟩ := h0.mark
 go_enter Tryz.func120, Tryz.ntmps120
 go_wp2
 go_ret
 exact ⟨rfl, rfl⟩
theorem a3K (g : Nat) (s : Num.St) (w : World) (h0 : NR K w g s) :
 Calls Tryz.prog 125 #[.pointer (some ⟨g, 0, none⟩)] w fun e w' => e = .returned (.int .i64 0) ∧ NR K w' g (Num.a2W s) ∧ ExtG g w w' := by
 obtain ⟨hc1, hf1, hf0⟩ := h0.mark;have HS := hid (h0.b5N true);clear h0
 go_enter Tryz.func125, Tryz.ntmps125
 go_wp2
 go_ret
 exact ⟨rfl, HS.o.1, HS.o.2⟩
theorem b4o (g : Nat) (n : Int) (s : Num.St) (w : World) (h0 : NR K w g s) (h : s.bad = true ∨ n < 0 ∨ (s.l.length : Int) < n) :
 Calls Tryz.prog 156 #[.pointer (some ⟨g, 0, none⟩), .int .i64 n] w fun e w' => e = .returned (.slice none 0 0) ∧ NR K w' g (Num.a2W s) ∧ ExtG g w w' := by
 obtain ⟨A, c, hrb, hc0, hc1, hf1, hf0⟩ := h0.open_;have HB := hid (a2X g s w h0);have HF := hid (fun w (h0 : NR K w g s) => a3K g s w h0)
 have H0 := hid h0;clear h0 hrb;obtain ⟨l, bad⟩ := s;dsimp only at *
 cases bad with
 | true =>
  clear h
  go_enter Tryz.func156, Tryz.ntmps156
  go_wp2_with (first
   | (go_at_call 120; refine HB.o.mono ?_; rintro e w' ⟨rfl, rfl⟩)
   | (go_at_call 125; refine (HF.o _ H0.o).mono ?_; rintro e w1 ⟨rfl, hr1, he1⟩))
  go_ret
  exact ⟨rfl, hr1, he1⟩
 | false =>
 by_cases hn : n < 0
 . clear h
   go_enter Tryz.func156, Tryz.ntmps156
   go_wp2_with (first
    | (go_at_call 120; refine HB.o.mono ?_; rintro e w' ⟨rfl, rfl⟩)
    | (go_at_call 125; refine (HF.o _ H0.o).mono ?_; rintro e w1 ⟨rfl, hr1, he1⟩))
   go_ret
   exact ⟨rfl, hr1, he1⟩
 have hn2 : (l.length : Int) < n := by rcases h with h | h | h <;> first | omega | cases h
 clear h
 go_enter Tryz.func156, Tryz.ntmps156
 go_wp2_with (first
  | (go_at_call 120; refine HB.o.mono ?_; rintro e w' ⟨rfl, rfl⟩)
  | (go_at_call 125; refine (HF.o _ H0.o).mono ?_; rintro e w1 ⟨rfl, hr1, he1⟩))
 go_ret
 exact ⟨rfl, hr1, he1⟩
theorem b2g (g n : Nat) (l : List UInt8) (w : World) (h0 : NR K w g ⟨l, false⟩) (h : n <= l.length) (hl : l.length <= 1000000) :
 Calls Tryz.prog 156 #[.pointer (some ⟨g, 0, none⟩), .int .i64 n] w fun e w' => ∃ v, e = .returned v ∧ OB 5 w.heap.size w' v (l.take n) ∧ NR K w' g ⟨l.drop n, false⟩ ∧ ExtG g w w' := by
 obtain ⟨A, c, hik, hrb, hc0, hc1, hf1, hf0⟩ := h0.openK;dsimp only at hik hrb hc0 hc1;have HB := hid (a2X g _ w h0);have hcut := RB.loK b2f hrb hik h n rfl;obtain ⟨A', hcut, hrd, hik2⟩ := hcut;have HIK := hid hik2;clear hik hik2;have htk := hrb.takeS h;have hnc := hrb.nc.1;have hC := hid (a7Z (.slice A n c) (l.take n) w htk (by simp; omega))
 have HD := hid hrd;have H0 := hid h0;have g1 : (n : Int) <= (l.length : Int) := by omega
 have g2 : (n : Int) <= (c : Int) := by omega
 have hlt := h0.lt;clear h0 hrb htk hrd h hnc
 go_enter Tryz.func156, Tryz.ntmps156
 go_wp2_with (first
  | (go_at_call 120; refine HB.o.mono ?_; rintro e w' ⟨rfl, rfl⟩)
  | (go_at_call 118; refine hC.o.mono ?_; rintro e w1 ⟨v1, rfl, ho1, he1⟩; have H1 := hid (H0.o.ext he1); obtain ⟨A1, c1, hrb1, hc01, hc11, hf11, hf01⟩ := H1.o.open_; have hc02 := he1.cell hc0; rw [hc02] at hc01; clear hc01 hc11 hrb1))
 go_ret
 obtain ⟨q1, q2⟩ := H1.o.b5O (HD.o.ext he1) HIK.o;refine ⟨_, rfl, ho1.a5P q2 (fun e => ?_), q1, (ExtG.of he1).trans q2⟩
 have := (ho1.own.lt g e).1;omega
theorem b2h (g : Nat) (n : Int) (s : Num.St) (w : World) (h0 : NR K w g s) (hl : s.l.length <= 1000000) :
 Calls Tryz.prog 156 #[.pointer (some ⟨g, 0, none⟩), .int .i64 n] w fun e w' => ∃ v, e = .returned v ∧ OB 5 w.heap.size w' v (Num.a0T n s).2 ∧ NR K w' g (Num.a0T n s).1 ∧ ExtG g w w' := by
 by_cases h : s.bad = true ∨ n < 0 ∨ (s.l.length : Int) < n
 . refine (b4o g n s w h0 h).mono ?_
   rintro e w' ⟨rfl, h1, h2⟩;rw [Num.b28 h];exact ⟨_, rfl, World.ownsRow_nil _ _ _ _, h1, h2⟩
 obtain ⟨l, b⟩ := s;obtain ⟨n, rfl⟩ : ∃ m : Nat, n = m := ⟨n.toNat, by omega⟩
 have hb : b = false := by cases b <;> simp_all
 subst hb;simp only at *;refine (b2g g n l w h0 (by omega) hl).mono ?_
 rintro e w' ⟨v, rfl, h1, h2, h3⟩;rw [Num.a6p rfl (show n <= l.length by omega)]
 exact ⟨_, rfl, h1, h2, h3⟩
theorem b6n (a : Nat) (b : UInt8) (ha : a * 256 + 255 < 18446744073709551616) : bits .or .u64 ((a * 256 : Nat) : Int) (n8 b) = ((a * 256 + b.toNat : Nat) : Int) := by
 have hb := b.toNat_lt;unfold n8
 show IntKind.u64.wrap ((BitVec.ofInt 64 ((a * 256 : Nat) : Int) ||| BitVec.ofInt 64 (b.toNat : Int)).toNat : Int) = _;rw [BitVec.toNat_or, BitVec.ofInt_natCast, BitVec.ofInt_natCast, BitVec.toNat_ofNat, BitVec.toNat_ofNat, Nat.mod_eq_of_lt (by omega), Nat.mod_eq_of_lt (by omega)]
 rw [show a * 256 = a <<< 8 by rw [Nat.shiftLeft_eq], <- Nat.shiftLeft_add_eq_or_of_lt (by omega), Nat.shiftLeft_eq]
 rw [IntKind.wrap_u64];omega
theorem a5v (g : Nat) (n : Int) (s : Num.St) (w : World) (h0 : NR K w g s) (hl : s.l.length <= 1000000) :
 Calls Tryz.prog 122 #[.pointer (some ⟨g, 0, none⟩), .int .i64 n] w fun e w' => e = .returned (.int .i64 ((Num.a0b n s).2 : Nat)) ∧ NR K w' g (Num.a0b n s).1 ∧ ExtG g w w' := by
 have HF := hid (fun w s (h0 : NR K w g s) => a3K g s w h0)
 have H0 := hid h0;clear h0
 by_cases hr : n < 1 ∨ 8 < n
 . have hp := hid (Num.b29 (s := s) hr)
   rw [hp.o];dsimp only
   by_cases h1 : n < 1
   . clear hr
     go_enter Tryz.func122, Tryz.ntmps122
     go_wp2_with (go_at_call 125; refine (HF.o _ _ H0.o).mono ?_; rintro e w1 ⟨rfl, hr1, he1⟩)
     go_ret
     exact ⟨rfl, hr1, he1⟩
   have h2 : 8 < n := by omega
   clear hr
   go_enter Tryz.func122, Tryz.ntmps122
   go_wp2_with (go_at_call 125; refine (HF.o _ _ H0.o).mono ?_; rintro e w1 ⟨rfl, hr1, he1⟩)
   go_ret
   exact ⟨rfl, hr1, he1⟩
 have HY := hid (b2h g n s w H0.o hl);have hout := Num.a6q n s;have HPB := hid (Num.b0N (s := s) hr);have HPO := hid (Num.b2a (s := s) hr);generalize hb : Num.a0T n s = t at *;obtain ⟨t, o⟩ := t;dsimp only at *;clear hb
 have hol : o.length <= 8 := by
  rcases hout with h | h
  . omega
  simp [h]
 have h1 : ¬ n < 1 := by omega
 have h2 : ¬ 8 < n := by omega
 clear hr hout
 go_enter Tryz.func122, Tryz.ntmps122
 go_wp2_with (go_at_call 156; refine HY.o.mono ?_; rintro e w1 ⟨v1, rfl, ho1, hr1, he1⟩; have HO := hid ho1.rb; clear ho1; obtain ⟨A, c, rfl, hrd⟩ := HO.o)
 have HR1 := hid hr1;clear hr1
 go_loop [5, 20] (fun a i => ∃ k : Nat, k <= o.length ∧ i = .int .i64 k ∧ a = .int .u64 (Num.val (o.take k) : Nat)) (fun _ i => o.length - (intOf i).toNat)
 case atStart => exact ⟨0, Nat.zero_le _, rfl, by simp [Num.b6i]⟩
 case round =>
 obtain ⟨k, hk, rfl, rfl⟩ := hrel
 by_cases hlt : k < o.length
 . obtain ⟨b, q, rfl⟩ := hrd.addr (by omega)
   have hcell := hrd.get (j := k) (u := a1h o[k]) (by rw [List.getElem?_map, List.getElem?_eq_getElem hlt]; rfl)
   unfold a1h at hcell;have ht := Num.b4l hlt;have hv := Num.b5r (o.take k);rw [List.length_take, Nat.min_eq_left hk] at hv
   have hv7 : Num.val (o.take k) < 72057594037927936 := Nat.lt_of_lt_of_le hv (by
    have : 256 ^ k <= 256 ^ 7 := Nat.pow_le_pow_right (by omega) (by omega)
    simpa using this)
   clear hv;have HT := hid ht;clear ht;have hx := n8_lo o[k];have hx2 := n8_hi o[k];have ho := b6n (Num.val (o.take k)) o[k] (by omega)
   generalize Num.val (o.take k) = a at *;have e1 : ((a * 256 : Nat) : Int) = (a : Int) * 256 := by omega
   rw [e1] at ho;have g1 : (k : Int) < (o.length : Int) := by omega
   have g0 : 0 <= (k : Int) := by omega
   go_wp2
   refine ⟨⟨k + 1, by omega, by go_num, ?_⟩, by simp [intOf]; omega⟩
   rw [HT.o]
   congr 1
 obtain rfl : k = o.length := by omega
 rw [List.take_length];have HBD := hid (a2X g t w1 HR1.o);have HFL := hid (a3K g t w1 HR1.o);obtain ⟨tl, tb⟩ := t;dsimp only at *
 cases tb with
 | true =>
  have HP := hid (HPB.o (.inl rfl));clear HPB HPO;generalize Num.val o = v at *
  go_wp2_with (first
   | (go_at_call 120; refine HBD.o.mono ?_; rintro e w' ⟨rfl, rfl⟩)
   | (go_at_call 125; refine HFL.o.mono ?_; rintro e w2 ⟨rfl, hr2, he2⟩))
  go_ret
  rw [HP.o];exact ⟨rfl, hr2, he1.trans he2⟩
 | false =>
 by_cases hv : 9223372036854775807 < Num.val o
 . have HP := hid (HPB.o (.inr hv))
   clear HPB HPO;generalize Num.val o = v at *;have hv2 : (9223372036854775807 : Int) < (v : Int) := by omega
   go_wp2_with (first
    | (go_at_call 120; refine HBD.o.mono ?_; rintro e w' ⟨rfl, rfl⟩)
    | (go_at_call 125; refine HFL.o.mono ?_; rintro e w2 ⟨rfl, hr2, he2⟩))
   go_ret
   rw [HP.o];exact ⟨rfl, hr2, he1.trans he2⟩
 have HP := hid (HPO.o (by simp; omega))
 clear HPB HPO;have HV := hid (Nat.le_of_not_lt hv);generalize Num.val o = v at *;have hv2 : ¬ (9223372036854775807 : Int) < (v : Int) := by omega
 go_wp2_with (first
  | (go_at_call 120; refine HBD.o.mono ?_; rintro e w' ⟨rfl, rfl⟩)
  | (go_at_call 125; refine HFL.o.mono ?_; rintro e w2 ⟨rfl, hr2, he2⟩))
 go_ret
 rw [HP.o];exact ⟨rfl, HR1.o, he1⟩
theorem b6o (g : Nat) (n : Int) (is : Bool) (s : Num.St) (w : World) (h0 : NR K w g s) (h : s.bad = true ∨ is = false) :
 Calls Tryz.prog 123 #[.pointer (some ⟨g, 0, none⟩), .int .i64 n, .bool is] w fun e w' => e = .returned (.int .i64 0) ∧ NR K w' g (Num.a2W s) ∧ ExtG g w w' := by
 have HB := hid (a2X g s w h0);have HF := hid (a3K g s w h0);obtain ⟨l, bad⟩ := s
 cases bad with
 | true =>
  clear h
  go_enter Tryz.func123, Tryz.ntmps123
  go_wp2_with (first
   | (go_at_call 120; refine HB.o.mono ?_; rintro e w' ⟨rfl, rfl⟩)
   | (go_at_call 125; refine HF.o.mono ?_; rintro e w2 ⟨rfl, hr2, he2⟩))
  go_ret
  exact ⟨rfl, hr2, he2⟩
 | false =>
 cases is with
 | true => simp at h
 | false =>
 clear h
 go_enter Tryz.func123, Tryz.ntmps123
 go_wp2_with (first
  | (go_at_call 120; refine HB.o.mono ?_; rintro e w' ⟨rfl, rfl⟩)
  | (go_at_call 125; refine HF.o.mono ?_; rintro e w2 ⟨rfl, hr2, he2⟩))
 go_ret
 exact ⟨rfl, hr2, he2⟩
theorem b4p (g : Nat) (n : Int) (l : List UInt8) (w : World) (h0 : NR K w g ⟨l, false⟩) :
 Calls Tryz.prog 123 #[.pointer (some ⟨g, 0, none⟩), .int .i64 n, .bool true] w fun e w' => e = .returned (.int .i64 n) ∧ w = w' := by
 have HB := hid (a2X g _ w h0)
 go_enter Tryz.func123, Tryz.ntmps123
 go_wp2_with (first
  | (go_at_call 120; refine HB.o.mono ?_; rintro e w' ⟨rfl, rfl⟩))
 go_ret
 exact ⟨rfl, rfl⟩
theorem a9K (g : Nat) (n : Int) (n' : Nat) (is : Bool) (s : Num.St) (w : World) (h0 : NR K w g s) (hn : n = n') :
 Calls Tryz.prog 123 #[.pointer (some ⟨g, 0, none⟩), .int .i64 n, .bool is] w fun e w' => e = .returned (.int .i64 ((Num.a4K n' is s).2 : Nat)) ∧ NR K w' g (Num.a4K n' is s).1 ∧ ExtG g w w' := by
 subst hn;unfold Num.a4K
 by_cases h : s.bad = true ∨ is = false
 . rw [if_pos h]
   exact b6o g n' is s w h0 h
 rw [if_neg h];obtain ⟨l, b⟩ := s;have hb : b = false := by cases b <;> simp_all
 have hi : is = true := by cases is <;> simp_all
 subst hb hi;exact (b4p g n' l w h0).mono fun e w' ⟨q1, q2⟩ => by subst q2; exact ⟨q1, h0, ExtG.refl _ _⟩
theorem a3s (g : Nat) (s : Num.St) (w : World) (h0 : NR K w g s) (hl : s.l.length <= 1000000) :
 Calls Tryz.prog 94 #[.pointer (some ⟨g, 0, none⟩)] w fun e w' => e = .returned (.int .i64 ((Num.a0C s).2 : Nat)) ∧ NR K w' g (Num.a0C s).1 ∧ ExtG g w w' := by
 have HF := hid (a5v g 1 s w h0 hl);have hb := Num.a5u s;have hl1 := Num.a3e 1 s;have HP1 := hid (fun s1 c h => @Num.numP_1 s s1 c h)
 have HP2 := hid (fun s1 s2 c d h => @Num.numP_2 s s1 s2 c d h)
 have HP3 := hid (fun s1 s2 c n h => @Num.numP_3 s s1 s2 c n h)
 have HP4 := hid (fun s1 c h => @Num.numP_4 s s1 c h)
 generalize ht : Num.a0b 1 s = t at *;obtain ⟨s1, c⟩ := t;dsimp only at *
 by_cases c1 : c < 240
 . have HP := hid (HP1.o s1 c rfl c1)
   clear HP1 HP2 HP3 HP4 ht;have g1 : (c : Int) < 240 := by omega
   go_enter Tryz.func94, Tryz.ntmps94
   go_wp2_with (first
    | (go_at_call 122; refine HF.o.mono ?_; rintro e w1 ⟨rfl, hr1, he1⟩))
   go_ret
   rw [HP.o];exact ⟨rfl, hr1, he1⟩
 have g1 : ¬ (c : Int) < 240 := by omega
 by_cases c2 : c < 248
 . obtain ⟨c, rfl⟩ : ∃ m, c = m + 240 := ⟨c - 240, by omega⟩
   have hb2 := Num.a5u s1;have HF2 := hid (fun w (h0 : NR K w g s1) => a5v g 1 s1 w h0 (by omega))
   have HPP := hid (fun s2 d => HP2.o s1 s2 (c + 240) d rfl c1 c2)
   clear HP1 HP2 HP3 HP4 ht;generalize ht2 : Num.a0b 1 s1 = t at *;obtain ⟨s2, d⟩ := t;dsimp only at *;have HP := hid (HPP.o s2 d rfl);clear HPP ht2;have g2 : ((c + 240 : Nat) : Int) < 248 := by omega
   have g3 : ((c + 240 : Nat) : Int) - 240 = c := by omega
   have HM := hid (fun n w (h0 : NR K w g s2) hn => a9K g n (240 + (c + 240 - 240) * 256 + d) true s2 w h0 hn)
   generalize Num.a4K (240 + (c + 240 - 240) * 256 + d) true s2 = q at *;generalize ((c + 240 : Nat) : Int) = z at *
   go_enter Tryz.func94, Tryz.ntmps94
   go_wp2_with (first
    | (go_at_call 122; refine HF.o.mono ?_; rintro e w1 ⟨rfl, hr1, he1⟩)
    | (go_at_call 122; refine (HF2.o _ hr1).mono ?_; rintro e w2 ⟨rfl, hr2, he2⟩)
    | (go_at_call 123; refine (HM.o _ _ hr2 (by omega)).mono ?_; rintro e w3 ⟨rfl, hr3, he3⟩))
   go_ret
   rw [HP.o];exact ⟨rfl, hr3, (he1.trans he2).trans he3⟩
 have g2 : ¬ (c : Int) < 248 := by omega
 by_cases c3 : c <= 254
 . have g3 : (c : Int) <= 254 := by omega
   have HF2 := hid (fun k w (h0 : NR K w g s1) => a5v g k s1 w h0 (by omega))
   have HPP := hid (fun s2 d => HP3.o s1 s2 c d rfl c1 c2 c3)
   have hk : ((c : Int) - 246) = ((c - 246 : Nat) : Int) := by omega
   have hv := Num.b0M (c - 246 : Nat) s1;clear HP1 HP2 HP3 HP4 ht;generalize ht2 : Num.a0b (c - 246 : Nat) s1 = t at *;obtain ⟨s2, n⟩ := t;dsimp only at *;have HP := hid (HPP.o s2 n rfl);have HQ := hid ht2;have HK := hid hk;have HN := hid hv;clear HPP ht2 hk;have HS := hid (fun w => b4n n w (by omega))
   have hpl := Num.b5q n;have HM := hid (fun is w (h0 : NR K w g s2) => a9K g n n is s2 w h0 rfl)
   clear hv
   by_cases c4 : 2288 <= n
   . have g4 : (2288 : Int) <= (n : Int) := by omega
     by_cases c5 : (Num.put n).length = c - 245
     . have g5 : (((Num.put n).length : Int) == (c : Int) - 246 + 1) = true := by simp; omega
       have hd : (decide (2288 <= n) && (Num.put n).length == c - 245) = true := by simp [c4, c5]
       rw [hd] at HP;clear hd c5;generalize (Num.put n).length = q at *
       go_enter Tryz.func94, Tryz.ntmps94
       go_wp2_with (first
        | (go_at_call 122; with_reducible refine HF.o.mono ?_; rintro e w1 ⟨rfl, hr1, he1⟩)
        | (go_at_call 122; rw [HK.o]; refine (HF2.o _ _ hr1).mono ?_; rw [HQ.o]; rintro e w2 ⟨rfl, hr2, he2⟩)
        | (go_at_call 124; refine (HS.o _).mono ?_; rintro e w' ⟨rfl, rfl⟩)
        | (go_at_call 123; refine (HM.o _ _ hr2).mono ?_; rintro e w3 ⟨rfl, hr3, he3⟩))
       go_ret
       rw [HP.o];exact ⟨rfl, hr3, (he1.trans he2).trans he3⟩
     have g5 : (((Num.put n).length : Int) == (c : Int) - 246 + 1) = false := by simp; omega
     have hd : (decide (2288 <= n) && (Num.put n).length == c - 245) = false := by simp [c4, c5]
     rw [hd] at HP;clear hd c5;generalize (Num.put n).length = q at *
     go_enter Tryz.func94, Tryz.ntmps94
     go_wp2_with (first
      | (go_at_call 122; with_reducible refine HF.o.mono ?_; rintro e w1 ⟨rfl, hr1, he1⟩)
      | (go_at_call 122; rw [HK.o]; refine (HF2.o _ _ hr1).mono ?_; rw [HQ.o]; rintro e w2 ⟨rfl, hr2, he2⟩)
      | (go_at_call 124; refine (HS.o _).mono ?_; rintro e w' ⟨rfl, rfl⟩)
      | (go_at_call 123; refine (HM.o _ _ hr2).mono ?_; rintro e w3 ⟨rfl, hr3, he3⟩))
     go_ret
     rw [HP.o];exact ⟨rfl, hr3, (he1.trans he2).trans he3⟩
   have g4 : ¬ (2288 : Int) <= (n : Int) := by omega
   have hd : (decide (2288 <= n) && (Num.put n).length == c - 245) = false := by simp [c4]
   rw [hd] at HP;clear hd HS hpl
   go_enter Tryz.func94, Tryz.ntmps94
   go_wp2_with (first
    | (go_at_call 122; with_reducible refine HF.o.mono ?_; rintro e w1 ⟨rfl, hr1, he1⟩)
    | (go_at_call 122; rw [HK.o]; refine (HF2.o _ _ hr1).mono ?_; rw [HQ.o]; rintro e w2 ⟨rfl, hr2, he2⟩)
    | (go_at_call 123; refine (HM.o _ _ hr2).mono ?_; rintro e w3 ⟨rfl, hr3, he3⟩))
   go_ret
   rw [HP.o];exact ⟨rfl, hr3, (he1.trans he2).trans he3⟩
 have HP := hid (HP4.o s1 c rfl c3);clear HP1 HP2 HP3 HP4 ht;have g3 : ¬ (c : Int) <= 254 := by omega
 have HL := hid (fun w (h0 : NR K w g s1) => a3K g s1 w h0)
 go_enter Tryz.func94, Tryz.ntmps94
 go_wp2_with (first
  | (go_at_call 122; refine HF.o.mono ?_; rintro e w1 ⟨rfl, hr1, he1⟩)
  | (go_at_call 125; refine (HL.o _ hr1).mono ?_; rintro e w2 ⟨rfl, hr2, he2⟩))
 go_ret
 rw [HP.o];exact ⟨rfl, hr2, he1.trans he2⟩
theorem b4q (g : Nat) (s : Num.St) (w : World) (h0 : NR K w g s) :
 Calls Tryz.prog 95 #[.pointer (some ⟨g, 0, none⟩)] w fun e w' => e = .returned (.int .i64 (if s.bad = true ∨ s.l ≠ [] then 10 else 0)) ∧ w = w' := by
 obtain ⟨A, c, hrb, hc0, hc1, hf1, hf0⟩ := h0.open_;have HB := hid (a2X g s w h0);obtain ⟨l, bad⟩ := s;dsimp only at *
 cases bad with
 | true =>
  rw [if_pos (.inl rfl)]
  go_enter Tryz.func95, Tryz.ntmps95
  go_wp2_with (first
   | (go_at_call 120; refine HB.o.mono ?_; rintro e w' ⟨rfl, rfl⟩))
  go_ret
  exact ⟨rfl, rfl⟩
 | false =>
 by_cases hl : l = []
 . subst hl
   rw [if_neg (by simp)]
   go_enter Tryz.func95, Tryz.ntmps95
   go_wp2_with (first
    | (go_at_call 120; refine HB.o.mono ?_; rintro e w' ⟨rfl, rfl⟩))
   go_ret
   exact ⟨rfl, rfl⟩
 rw [if_pos (.inr hl)];have hp : 0 < l.length := List.length_pos_iff.2 hl;have hp1 : (0 : Int) < (l.length : Int) := by omega
 generalize l.length = n at *
 go_enter Tryz.func95, Tryz.ntmps95
 go_wp2_with (first
  | (go_at_call 120; refine HB.o.mono ?_; rintro e w' ⟨rfl, rfl⟩))
 go_ret
 exact ⟨rfl, rfl⟩
theorem b4r (v : Value) (l : List UInt8) (w : World) (h0 : RB w v l) (hl : l.length <= 1000000) :
 Calls Tryz.prog 92 #[v] w fun e w' => ∃ g, e = .returned (.pointer (some ⟨g, 0, none⟩)) ∧ NR (fun k => k < w'.heap.size) w' g ⟨l, false⟩ ∧ Ext w w' ∧ w.heap.size <= g := by
 have hC := hid (fun w h0 => a7Z v l w h0 (by omega))
 go_enter Tryz.func92, Tryz.ntmps92
 go_wp2_with (first
  | (go_at_call 118; refine (hC.o _ h0).mono ?_; rintro e w1 ⟨v1, rfl, ho1, he1⟩; obtain ⟨A1, c1, rfl⟩ := ho1.form; have HO1 := hid ho1.rb; clear ho1))
 go_ret
 refine ⟨_, rfl, (Rdr.new HO1.o _ _).weak (fun b hb => by simp; omega), he1.alloc _, he1.size⟩
end Go.Proofs.YtdkejfjcchlnpaaGreat
namespace Go.Proofs.YtdkejfjcchlnpaaGreat
open Go.RowKit Go.Ox
variable {K : Nat -> Prop}
end Go.Proofs.YtdkejfjcchlnpaaGreat
