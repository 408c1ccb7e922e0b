/-
  GrNodeAt, NumMath, packed: what the claim needs of them.
-/
import Derived.Test.YtpmpjjhchkoboaaGreatDoorPc08
import Derived.Test.YtpmpjjhchkoboaaGreatDoorPc06
import Derived.Test.YtpmpjjhchkoboaaGreatDoorPc09
import GoSem.Op.String
set_option linter.unusedSimpArgs false
set_option linter.unusedVariables false
namespace Go.Proofs.YtpmpjjhchkoboaaGreatDoor
open Go.RowKit Go.Ox Go.Ox.Gr
attribute [local irreducible] RE OE NodesR
theorem elemI : Elem Tryz.prog 45 3 (.int .i64 0) 1 8 := Elem.mk' Tryz.underlying45 (by kernel_rfl) rfl (by omega)
theorem elemNd : Elem Tryz.prog 24 112 (.agg #[.int .i64 0, .slice none 0 0, .int .i64 0, .int .i64 0, .int .i64 0, .slice none 0 0]) 6 80 := Elem.mk' Tryz.underlying24 (by kernel_rfl) rfl (by omega)
theorem Bx6.fill {w : World} {q : Nat} {T : TypeId} {a0 a1 a2 a3 a4 a5 : Value} (h : Bx6 w q T a0 a1 a2 a3 a4 a5) (v0 v1 v2 v3 v4 v5 : Value) :
 Bx6 ((((((w.setCell ⟨q, 0, none⟩ v0).setCell ⟨q, 1, none⟩ v1).setCell ⟨q, 2, none⟩ v2).setCell ⟨q, 3, none⟩ v3).setCell ⟨q, 4, none⟩ v4).setCell ⟨q, 5, none⟩ v5) q T v0 v1 v2 v3 v4 v5 :=
 ⟨by simpa using (((((h.b.set_ 0 v0).set_ 1 v1).set_ 2 v2).set_ 3 v3).set_ 4 v4).set_ 5 v5⟩
theorem Bx6.off {w : World} {p q i : Nat} {T : TypeId} {a0 a1 a2 a3 a4 a5 : Value} (h : Bx6 w q T a0 a1 a2 a3 a4 a5) (hne : p ≠ q) (v : Value) : Bx6 (w.setCell ⟨p, i, none⟩ v) q T a0 a1 a2 a3 a4 a5 :=
 ⟨h.b.extQ (ExtQ.setCell (Q := fun k => k = p) (ExtQ.refl _ _) (p := ⟨p, i, none⟩) rfl v) fun e => hne e.symm⟩
theorem extQ6 {Q : Nat → Prop} {w0 w : World} {q : Nat} (h : ExtQ Q w0 w) (hq : Q q) (v0 v1 v2 v3 v4 v5 : Value) :
 ExtQ Q w0 ((((((w.setCell ⟨q, 0, none⟩ v0).setCell ⟨q, 1, none⟩ v1).setCell ⟨q, 2, none⟩ v2).setCell ⟨q, 3, none⟩ v3).setCell ⟨q, 4, none⟩ v4).setCell ⟨q, 5, none⟩ v5) :=
 ExtQ.setCell (ExtQ.setCell (ExtQ.setCell (ExtQ.setCell (ExtQ.setCell (ExtQ.setCell h (p := ⟨q, 0, none⟩) hq v0) (p := ⟨q, 1, none⟩) hq v1) (p := ⟨q, 2, none⟩) hq v2) (p := ⟨q, 3, none⟩) hq v3) (p := ⟨q, 4, none⟩) hq v4) (p := ⟨q, 5, none⟩) hq v5
end Go.Proofs.YtpmpjjhchkoboaaGreatDoor
namespace Go.Proofs.YtpmpjjhchkoboaaGreatDoor
open Go.RowKit Go.Ox Go.Ox.Gr
attribute [local irreducible] RE OE NodesR
end Go.Proofs.YtpmpjjhchkoboaaGreatDoor
namespace Go.Ox.Gr
theorem each_all {f : Nd → Nat → Bool} : ∀ {l : List Nd} {i : Nat}, each f l i = true → ∀ (k : Nat) (h : k < l.length), f l[k] (i + k) = true
 | [], _, _, _, h => absurd h (Nat.not_lt_zero _)
 | n :: l, i, h, k, hk => by
  unfold each at h
  rw [Bool.and_eq_true] at h
  cases k with
  | zero => simpa using h.1
  | succ k =>
   have := each_all h.2 k (by simpa using hk)
   simpa [Nat.add_assoc, Nat.add_comm 1 k] using this
theorem base_ins {n : Nd} {i : Nat} (h : base n i = true) : n.ins.length ≤ 2 := by
 unfold base at h
 simp only [Bool.and_eq_true, decide_eq_true_eq] at h
 have := arity_range n.op
 omega
end Go.Ox.Gr
namespace Go.Proofs.YtpmpjjhchkoboaaGreatDoor
open Go.RowKit Go.Ox Go.Ox.Gr
attribute [local irreducible] RE OE NodesR
end Go.Proofs.YtpmpjjhchkoboaaGreatDoor
namespace Go.Ox.Num
def digits (n : Nat) : Nat → List UInt8
 | 0 => []
 | s + 1 => digits (n / 256) s ++ [UInt8.ofNat (n % 256)]
theorem digits_len : ∀ (s n : Nat), (digits n s).length = s
 | 0, _ => rfl
 | s + 1, n => by rw [digits, List.length_append, digits_len s]; rfl
theorem digits_at : ∀ (s n i : Nat) (h : i < (digits n s).length), (digits n s)[i] = UInt8.ofNat (n / 256 ^ (s - 1 - i) % 256)
 | 0, n, i, h => by simp [digits] at h
 | s + 1, n, i, h => by
  rw [digits_len] at h
  simp only [digits]
  rw [List.getElem_append]
  split
  · rename_i h2
    rw [digits_at s (n / 256) i h2]
    rw [digits_len] at h2
    rw [Nat.div_div_eq_div_mul, show s + 1 - 1 - i = (s - 1 - i) + 1 by omega, Nat.pow_succ, Nat.mul_comm 256]
  · rename_i h2
    rw [digits_len] at h2
    have : i = s := by omega
    subst this
    simp
theorem digits_set (n s : Nat) {k : Nat} (hk : k < s) (x : UInt8) (hx : x = UInt8.ofNat (n / 256 ^ (s - 1 - k) % 256)) :
 ((digits n s).take k ++ List.replicate (s - k) 0).set k x = (digits n s).take (k + 1) ++ List.replicate (s - (k + 1)) 0 := by
 have hl := digits_len s n
 have hk' : k < (digits n s).length := by omega
 rw [List.take_succ_eq_append_getElem hk', digits_at s n k hk', ← hx]
 rw [List.set_append_right _ _ (by simp; omega)]
 rw [List.length_take, Nat.min_eq_left (by omega), Nat.sub_self, show s - k = (s - (k + 1)) + 1 by omega, List.replicate_succ, List.set_cons_zero]
 simp
theorem digits_setD (n s : Nat) {j : Nat} (h0 : 0 < j) (hj : j ≤ s) (x : UInt8) (hx : x = UInt8.ofNat (n / 256 ^ (s - j) % 256)) :
 (List.replicate j 0 ++ (digits n s).drop j).set (j - 1) x = List.replicate (j - 1) 0 ++ (digits n s).drop (j - 1) := by
 have hl := digits_len s n
 have hk' : j - 1 < (digits n s).length := by omega
 rw [show (digits n s).drop (j - 1) = (digits n s)[j - 1] :: (digits n s).drop j by
  rw [List.drop_eq_getElem_cons hk', show j - 1 + 1 = j by omega]]
 rw [digits_at s n (j - 1) hk', show s - 1 - (j - 1) = s - j by omega, ← hx]
 obtain ⟨i, rfl⟩ : ∃ i, j = i + 1 := ⟨j - 1, by omega⟩
 rw [show List.replicate (i + 1) (0 : UInt8) = List.replicate i 0 ++ [0] by rw [List.replicate_succ'], List.append_assoc]
 rw [Nat.add_sub_cancel, List.set_append_right _ _ (by simp)]
 simp
def width (n : Nat) : Nat := if h : n < 256 then 1 else 1 + width (n / 256)
termination_by n
decreasing_by omega
theorem width_pos (n : Nat) : 1 ≤ width n := by
 unfold width; split <;> omega
theorem width_small {n : Nat} (h : n < 256) : width n = 1 := by unfold width; rw [dif_pos h]
theorem width_big {n : Nat} (h : ¬ n < 256) : width n = 1 + width (n / 256) := by rw [width]; rw [dif_neg h]
theorem width_div (n : Nat) : width n = (if n / 256 = 0 then 1 else 1 + width (n / 256)) := by
 by_cases h : n < 256
 · rw [width_small h, if_pos (by omega)]
 · rw [width_big h, if_neg (by omega)]
theorem width_le : ∀ (k n : Nat), 1 ≤ k → (width n ≤ k ↔ n < 256 ^ k)
 | 0, _, h => by omega
 | k + 1, n, _ => by
  by_cases h : n < 256
  · rw [width_small h]
    have : 256 ≤ 256 ^ (k + 1) := by
     rw [Nat.pow_succ]
     have := Nat.pow_pos (n := k) (show 0 < 256 by omega)
     omega
    constructor <;> intro _ <;> omega
  · rw [width_big h]
    cases k with
    | zero =>
     have := width_pos (n / 256)
     constructor
     · intro h1; omega
     · intro h1; simp at h1; omega
    | succ k =>
     rw [show 1 + width (n / 256) ≤ k + 1 + 1 ↔ width (n / 256) ≤ k + 1 by omega, width_le (k + 1) (n / 256) (by omega), Nat.pow_succ 256 (k + 1)]
     rw [Nat.div_lt_iff_lt_mul (by omega)]
def put (n : Nat) : List UInt8 :=
 if n < 240 then [UInt8.ofNat n]
 else if n < 2288 then [UInt8.ofNat (240 + (n - 240) / 256), UInt8.ofNat ((n - 240) % 256)]
 else UInt8.ofNat (246 + width n) :: digits n (width n)
theorem put_1 {n : Nat} (h : n < 240) : put n = [UInt8.ofNat n] := by unfold put; rw [if_pos h]
theorem put_2 {n : Nat} (h : ¬ n < 240) (h2 : n < 2288) : put n = [UInt8.ofNat (240 + (n - 240) / 256), UInt8.ofNat ((n - 240) % 256)] := by unfold put; rw [if_neg h, if_pos h2]
theorem put_3 {n : Nat} (h : ¬ n < 240) (h2 : ¬ n < 2288) : put n = UInt8.ofNat (246 + width n) :: digits n (width n) := by unfold put; rw [if_neg h, if_neg h2]
theorem put_len (n : Nat) : (put n).length = if n < 240 then 1 else if n < 2288 then 2 else 1 + width n := by
 unfold put
 split
 · rfl
 · split
   · rfl
   · rw [List.length_cons, digits_len]; omega
theorem put_le (n : Nat) : (put n).length ≤ 1 + width n := by
 rw [put_len]
 have := width_pos n
 split
 · omega
 · split <;> omega
theorem width_eq {n k : Nat} (h1 : 1 ≤ k) : (n / 256 ^ k == 0) = decide (width n ≤ k) := by
 have := width_le k n h1
 have hp : 0 < 256 ^ k := Nat.pow_pos (by omega)
 rw [show decide (width n ≤ k) = decide (n < 256 ^ k) from decide_eq_decide.2 this]
 rw [Bool.eq_iff_iff]
 simp [Nat.div_eq_zero_iff]
def val (l : List UInt8) : Nat := l.foldl (fun n c => n * 256 + c.toNat) 0
theorem val_nil : val [] = 0 := rfl
theorem val_snoc (l : List UInt8) (c : UInt8) : val (l ++ [c]) = val l * 256 + c.toNat := by simp [val]
theorem val_digits : ∀ (s n : Nat), val (digits n s) = n % 256 ^ s
 | 0, n => by simp [digits, val, Nat.mod_one]
 | s + 1, n => by
  rw [digits, val_snoc, val_digits s, UInt8.toNat_ofNat_of_lt' (by have := Nat.mod_lt n (show 0 < 256 by omega); simpa using this)]
  rw [Nat.pow_succ, Nat.mul_comm (256 ^ s) 256, Nat.mod_mul, Nat.mul_comm, Nat.add_comm]
theorem valFrom : ∀ (l : List UInt8) (n : Nat), l.foldl (fun n c => n * 256 + c.toNat) n = n * 256 ^ l.length + val l
 | [], n => by simp [val]
 | b :: l, n => by
  rw [List.foldl_cons, valFrom l, show val (b :: l) = l.foldl (fun n c => n * 256 + c.toNat) (0 * 256 + b.toNat) from rfl, valFrom l, List.length_cons, Nat.pow_succ, Nat.add_mul, Nat.zero_mul, Nat.zero_add]
  have : n * 256 * 256 ^ l.length = n * (256 ^ l.length * 256) := by rw [Nat.mul_assoc, Nat.mul_comm 256]
  omega
theorem val_cons (b : UInt8) (l : List UInt8) : val (b :: l) = b.toNat * 256 ^ l.length + val l := by
 show l.foldl (fun n c => n * 256 + c.toNat) (0 * 256 + b.toNat) = _
 rw [valFrom, Nat.zero_mul, Nat.zero_add]
theorem val_app (l r : List UInt8) : val (l ++ r) = val l * 256 ^ r.length + val r := by
 show (l ++ r).foldl (fun n c => n * 256 + c.toNat) 0 = _
 rw [List.foldl_append, valFrom]
 rfl
theorem valFrom_lt : ∀ (l : List UInt8) (n : Nat), l.foldl (fun n c => n * 256 + c.toNat) n < (n + 1) * 256 ^ l.length
 | [], n => by simp
 | c :: l, n => by
  have := valFrom_lt l (n * 256 + c.toNat)
  have hc := c.toNat_lt
  rw [List.foldl_cons, List.length_cons, Nat.pow_succ]
  refine Nat.lt_of_lt_of_le this ?_
  rw [Nat.mul_comm (256 ^ l.length) 256, ← Nat.mul_assoc]
  exact Nat.mul_le_mul_right _ (by omega)
theorem val_lt (l : List UInt8) : val l < 256 ^ l.length := by
 have := valFrom_lt l 0
 simpa [val] using this
attribute [irreducible] digits put val
end Go.Ox.Num
namespace Go.Ox.Num
structure St where
 l : List UInt8
 bad : Bool
def failP (s : St) : St := ⟨s.l, true⟩
def bytesP (n : Int) (s : St) : St × List UInt8 :=
 if s.bad = true ∨ n < 0 ∨ (s.l.length : Int) < n then (failP s, []) else (⟨s.l.drop n.toNat, false⟩, s.l.take n.toNat)
def fixedP (n : Int) (s : St) : St × Nat :=
 if n < 1 ∨ 8 < n then (failP s, 0)
 else if (bytesP n s).1.bad = true ∨ 9223372036854775807 < val (bytesP n s).2 then (failP (bytesP n s).1, 0)
 else ((bytesP n s).1, val (bytesP n s).2)
def mustP (n : Nat) (is : Bool) (s : St) : St × Nat := if s.bad = true ∨ is = false then (failP s, 0) else (s, n)
def numP (s : St) : St × Nat :=
 if (fixedP 1 s).2 < 240 then fixedP 1 s
 else if (fixedP 1 s).2 < 248 then
  mustP (240 + ((fixedP 1 s).2 - 240) * 256 + (fixedP 1 (fixedP 1 s).1).2) true (fixedP 1 (fixedP 1 s).1).1
 else if (fixedP 1 s).2 ≤ 254 then
  mustP (fixedP ((fixedP 1 s).2 - 246 : Nat) (fixedP 1 s).1).2 (decide (2288 ≤ (fixedP ((fixedP 1 s).2 - 246 : Nat) (fixedP 1 s).1).2) && (put (fixedP ((fixedP 1 s).2 - 246 : Nat) (fixedP 1 s).1).2).length == (fixedP 1 s).2 - 245) (fixedP ((fixedP 1 s).2 - 246 : Nat) (fixedP 1 s).1).1
 else (failP (fixedP 1 s).1, 0)
theorem bytesP_no {n : Int} {s : St} (h : s.bad = true ∨ n < 0 ∨ (s.l.length : Int) < n) : bytesP n s = (failP s, []) := if_pos h
theorem bytesP_yes {n : Nat} {s : St} (h0 : s.bad = false) (h : n ≤ s.l.length) : bytesP n s = (⟨s.l.drop n, false⟩, s.l.take n) := by
 unfold bytesP
 rw [if_neg (by rw [h0]; simp; omega)]
 simp
theorem bytesP_len (n : Int) (s : St) : (bytesP n s).1.l.length ≤ s.l.length := by
 unfold bytesP failP
 split
 · exact Nat.le_refl _
 · simp
theorem bytesP_out (n : Int) (s : St) : ((bytesP n s).2.length : Int) ≤ n ∨ (bytesP n s).2 = [] := by
 unfold bytesP
 split
 · exact .inr rfl
 · left
   simp; omega
theorem fixedP_len (n : Int) (s : St) : (fixedP n s).1.l.length ≤ s.l.length := by
 unfold fixedP failP
 split
 · exact Nat.le_refl _
 · split <;> exact bytesP_len n s
theorem fixedP_val (n : Int) (s : St) : (fixedP n s).2 ≤ 9223372036854775807 := by
 unfold fixedP
 split
 · simp
 · split
   · simp
   · rename_i h; simp only; omega
theorem val_take {l : List UInt8} {k : Nat} (h : k < l.length) : val (l.take (k + 1)) = val (l.take k) * 256 + l[k].toNat := by
 rw [List.take_succ_eq_append_getElem h, val_snoc]
theorem val_take_le (l : List UInt8) (k : Nat) : val (l.take k) ≤ val l := by
 have h := val_app (l.take k) (l.drop k)
 rw [List.take_append_drop] at h
 rw [h]
 exact Nat.le_trans (Nat.le_mul_of_pos_right _ (Nat.pow_pos (by omega))) (Nat.le_add_right _ _)
theorem val_one (b : UInt8) : val [b] = b.toNat := by simp [val]
theorem bytesP_ok {n : Int} {s t : St} {o : List UInt8} (h : bytesP n s = (t, o)) (hb : t.bad = false) : (o.length : Int) = n := by
 unfold bytesP at h
 split at h
 · injection h with h1 h2
   subst h1
   cases hb
 · injection h with h1 h2
   subst h2
   simp; omega
theorem bytesP_bad {n : Int} {s t : St} {o : List UInt8} (h : bytesP n s = (t, o)) (hb : t.bad = true) : o = [] ∧ failP t = t := by
 unfold bytesP at h
 split at h
 · injection h with h1 h2
   subst h1; subst h2
   exact ⟨rfl, rfl⟩
 · injection h with h1 h2
   subst h1
   cases hb
theorem fixedP_no {n : Int} {s : St} (h : n < 1 ∨ 8 < n) : fixedP n s = (failP s, 0) := if_pos h
theorem fixedP_bad {n : Int} {s : St} (h : ¬ (n < 1 ∨ 8 < n)) (h2 : (bytesP n s).1.bad = true ∨ 9223372036854775807 < val (bytesP n s).2) : fixedP n s = (failP (bytesP n s).1, 0) := by
 unfold fixedP; rw [if_neg h, if_pos h2]
theorem fixedP_ok {n : Int} {s : St} (h : ¬ (n < 1 ∨ 8 < n)) (h2 : ¬ ((bytesP n s).1.bad = true ∨ 9223372036854775807 < val (bytesP n s).2)) : fixedP n s = ((bytesP n s).1, val (bytesP n s).2) := by
 unfold fixedP; rw [if_neg h, if_neg h2]
theorem val_lt_one {l : List UInt8} (h : l.length ≤ 1) : val l < 256 := by
 have := val_lt l
 have h2 : 256 ^ l.length ≤ 256 ^ 1 := Nat.pow_le_pow_right (by omega) h
 omega
theorem fixedP_byte (s : St) : (fixedP 1 s).2 < 256 := by
 have h := bytesP_out 1 s
 have hl : (bytesP 1 s).2.length ≤ 1 := by
  rcases h with h | h
  · omega
  · simp [h]
 have := val_lt_one hl
 unfold fixedP
 split
 · simp
 · split
   · simp
   · exact this
theorem fixedP_1 (s : St) : ((bytesP 1 s).1.bad = true ∧ (fixedP 1 s).1 = (bytesP 1 s).1 ∧ (fixedP 1 s).2 = 0) ∨
 ((bytesP 1 s).1.bad = false ∧ (fixedP 1 s).1 = (bytesP 1 s).1 ∧ ∃ b, (bytesP 1 s).2 = [b] ∧ (fixedP 1 s).2 = b.toNat) := by
 cases hp : bytesP 1 s with
 | mk t o =>
  have hbd := fun h => bytesP_bad hp h
  have hok := fun h => bytesP_ok hp h
  unfold fixedP
  rw [if_neg (by omega), hp]
  dsimp only
  cases hb : t.bad with
  | true =>
   left
   rw [if_pos (.inl rfl)]
   exact ⟨rfl, (hbd hb).2, rfl⟩
  | false =>
   right
   have hl := hok hb
   match o, hl with
   | [b], _ =>
    have := b.toNat_lt
    rw [val_one, if_neg (by simp; omega)]
    exact ⟨rfl, rfl, b, rfl, rfl⟩
   | [], hl => simp at hl
   | _ :: _ :: _, hl => simp at hl; omega
theorem numP_1 {s s1 : St} {c : Nat} (h : fixedP 1 s = (s1, c)) (hc : c < 240) : numP s = (s1, c) := by
 unfold numP; rw [h]; simp [hc]
theorem numP_2 {s s1 s2 : St} {c d : Nat} (h : fixedP 1 s = (s1, c)) (h0 : ¬ c < 240) (hc : c < 248) (h2 : fixedP 1 s1 = (s2, d)) : numP s = mustP (240 + (c - 240) * 256 + d) true s2 := by
 unfold numP; rw [h]; simp [h0, hc, h2]
theorem numP_3 {s s1 s2 : St} {c n : Nat} (h : fixedP 1 s = (s1, c)) (h0 : ¬ c < 240) (h1 : ¬ c < 248) (hc : c ≤ 254) (h2 : fixedP (c - 246 : Nat) s1 = (s2, n)) :
 numP s = mustP n (decide (2288 ≤ n) && (put n).length == c - 245) s2 := by
 unfold numP; rw [h]; simp [h0, h1, hc, h2]
theorem numP_4 {s s1 : St} {c : Nat} (h : fixedP 1 s = (s1, c)) (hc : ¬ c ≤ 254) : numP s = (failP s1, 0) := by
 unfold numP; rw [h]; simp [show ¬ c < 240 by omega, show ¬ c < 248 by omega, hc]
theorem val_top {l : List UInt8} (h : l.length = 8) : 9223372036854775807 < val l ↔ 127 < (l[0]'(by omega)).toNat := by
 cases l with
 | nil => simp at h
 | cons b l =>
  have hl : l.length = 7 := by simpa using h
  have hv := val_lt l
  rw [hl] at hv
  rw [val_cons, hl]
  simp only [List.getElem_cons_zero]
  omega
theorem val_small {l : List UInt8} (h : l.length ≤ 7) : val l ≤ 9223372036854775807 := by
 have hv := val_lt l
 have : 256 ^ l.length ≤ 256 ^ 7 := Nat.pow_le_pow_right (by omega) h
 omega
theorem mustP_no {n : Nat} {is : Bool} {s : St} (h : s.bad = true ∨ is = false) : mustP n is s = (failP s, 0) := if_pos h
theorem mustP_yes {n : Nat} {s : St} (h : s.bad = false) : mustP n true s = (s, n) := by unfold mustP; rw [if_neg (by simp [h])]
theorem mustP_yesB {n : Nat} {is : Bool} {s : St} (h : is = true) (h2 : s.bad = false) : mustP n is s = (s, n) := by rw [h]; exact mustP_yes h2
theorem mustP_len (n : Nat) (is : Bool) (s : St) : (mustP n is s).1.l.length ≤ s.l.length := by
 unfold mustP failP; split <;> exact Nat.le_refl _
theorem numP_len (s : St) : (numP s).1.l.length ≤ s.l.length := by
 have h1 := fixedP_len 1 s
 unfold numP
 split
 · exact h1
 · split
   · exact Nat.le_trans (mustP_len _ _ _) (Nat.le_trans (fixedP_len _ _) h1)
   · split
     · exact Nat.le_trans (mustP_len _ _ _) (Nat.le_trans (fixedP_len _ _) h1)
     · exact h1
theorem fixedP_app {l r : List UInt8} (h1 : 1 ≤ l.length) (h2 : l.length ≤ 8) (h3 : val l ≤ 9223372036854775807) : fixedP l.length ⟨l ++ r, false⟩ = (⟨r, false⟩, val l) := by
 unfold fixedP
 rw [if_neg (by omega), bytesP_yes rfl (by simp)]
 rw [if_neg (by simp; omega)]
 simp
theorem fixedP_one (b : UInt8) (r : List UInt8) : fixedP 1 ⟨b :: r, false⟩ = (⟨r, false⟩, b.toNat) := by
 have := fixedP_app (l := [b]) (r := r) (by simp) (by simp) (by rw [val_one]; have := b.toNat_lt; omega)
 rw [val_one] at this
 exact this
theorem numP_put {n : Nat} (hn : n < 9223372036854775808) (r : List UInt8) : numP ⟨put n ++ r, false⟩ = (⟨r, false⟩, n) := by
 have hb : ∀ m : Nat, m < 256 → (UInt8.ofNat m).toNat = m := fun m h => UInt8.toNat_ofNat_of_lt' (by simpa using h)
 by_cases h1 : n < 240
 · rw [put_1 h1]
   unfold numP
   rw [List.singleton_append, fixedP_one, hb n (by omega)]
   simp only [if_pos h1]
 by_cases h2 : n < 2288
 · rw [put_2 h1 h2]
   unfold numP
   rw [List.cons_append, fixedP_one, hb _ (by omega)]
   simp only [List.singleton_append, fixedP_one]
   rw [if_neg (by omega), if_pos (by omega), hb _ (by omega)]
   unfold mustP
   rw [if_neg (by simp)]
   have e : 240 + (240 + (n - 240) / 256 - 240) * 256 + (n - 240) % 256 = n := by omega
   rw [e]
 · have hw := (width_le 8 n (by omega)).2 (by omega)
   have hw1 : ¬ width n ≤ 1 := fun h => by have := (width_le 1 n (by omega)).1 h; omega
   have hlen : (put n).length = 1 + width n := by rw [put_len, if_neg h1, if_neg h2]
   have hv : val (digits n (width n)) = n := by
    rw [val_digits, Nat.mod_eq_of_lt ((width_le _ n (width_pos n)).1 (Nat.le_refl _))]
   have hd := digits_len (width n) n
   have hf := fixedP_app (l := digits n (width n)) (r := r) (by omega) (by omega) (by rw [hv]; omega)
   rw [hd, hv] at hf
   have hp := put_3 h1 h2
   unfold numP
   rw [hp, List.cons_append, fixedP_one, hb _ (by omega)]
   simp only
   rw [if_neg (by omega), if_neg (by omega), if_pos (by omega)]
   rw [show 246 + width n - 246 = width n by omega, hf]
   unfold mustP
   simp only
   rw [hlen]
   rw [if_neg (by simp; omega)]
end Go.Ox.Num
namespace Go.Ox.Num
open Go.Op
def hd (n : Nat) : Nat := if n < 240 then n else if n < 2288 then 240 + (n - 240) / 256 else 246 + width n
end Go.Ox.Num
namespace Go.Ox.Num
open Go.Op
theorem fixedP_good {n : Int} {s t : St} {v : Nat} (h : fixedP n s = (t, v)) (hb : t.bad = false) : s.bad = false ∧ 1 ≤ n ∧ n ≤ 8 ∧ ∃ o : List UInt8, s.l = o ++ t.l ∧ (o.length : Int) = n ∧ v = val o := by
 unfold fixedP at h
 split at h
 · injection h with h1 h2; rw [← h1] at hb; cases hb
 · split at h
   · injection h with h1 h2; rw [← h1] at hb; cases hb
   · rename_i h0 h1
     unfold bytesP at h h1
     by_cases hc : s.bad = true ∨ n < 0 ∨ (s.l.length : Int) < n
     · rw [if_pos hc] at h1; exact absurd (.inl rfl) h1
     · rw [if_neg hc] at h
       injection h with e1 e2
       refine ⟨by cases hs : s.bad with | true => exact absurd (.inl hs) hc | false => rfl, by omega, by omega, s.l.take n.toNat, ?_, ?_, e2.symm⟩
       · rw [← e1]; simp
       · rw [List.length_take]; omega
theorem val_inj : ∀ {a b : List UInt8}, a.length = b.length → val a = val b → a = b
 | [], [], _, _ => rfl
 | x :: a, y :: b, h, hv => by
  have hl : a.length = b.length := by simpa using h
  have ha := val_lt a
  have hb := val_lt b
  rw [val_cons, val_cons, ← hl] at hv
  rw [← hl] at hb
  have key : x.toNat = y.toNat ∧ val a = val b := by
   generalize 256 ^ a.length = p at *
   rcases Nat.lt_trichotomy x.toNat y.toNat with q | q | q
   · have : (x.toNat + 1) * p ≤ y.toNat * p := Nat.mul_le_mul_right _ q
     rw [Nat.add_mul] at this; omega
   · rw [q] at hv; exact ⟨q, by omega⟩
   · have : (y.toNat + 1) * p ≤ x.toNat * p := Nat.mul_le_mul_right _ q
     rw [Nat.add_mul] at this; omega
  rw [UInt8.toNat_inj.1 key.1, val_inj hl key.2]
theorem mustP_good {n v : Nat} {is : Bool} {s t : St} (h : mustP n is s = (t, v)) (hb : t.bad = false) : is = true ∧ s.bad = false ∧ t = s ∧ v = n := by
 unfold mustP at h
 split at h
 · injection h with h1 h2; rw [← h1] at hb; cases hb
 · rename_i hc
   injection h with h1 h2
   refine ⟨by cases q : is with | true => rfl | false => exact absurd (.inr q) hc, by cases q : s.bad with | true => exact absurd (.inl q) hc | false => rfl, h1.symm, h2.symm⟩
theorem numP_canon {s t : St} {n : Nat} (h : numP s = (t, n)) (hb : t.bad = false) : s.bad = false ∧ s.l = put n ++ t.l ∧ n < 9223372036854775808 := by
 cases h1 : fixedP 1 s with
 | mk s1 c =>
  have hcv := fixedP_byte s
  rw [h1] at hcv
  simp only at hcv
  by_cases q1 : c < 240
  · rw [numP_1 h1 q1] at h
    injection h with e1 e2
    subst e1 e2
    obtain ⟨a, _, _, o, b, l, v⟩ := fixedP_good h1 hb
    refine ⟨a, ?_, by omega⟩
    match o, l with
    | [x], _ => rw [b, v, val_one, put_1 (by rw [v, val_one] at q1; exact q1)]; simp
    | [], l => simp at l
    | _ :: _ :: _, l => simp at l; omega
  · by_cases q2 : c < 248
    · cases h2 : fixedP 1 s1 with
      | mk s2 d =>
       have hdv := fixedP_byte s1
       rw [h2] at hdv
       simp only at hdv
       rw [numP_2 h1 q1 q2 h2] at h
       obtain ⟨_, b2, e1, e2⟩ := mustP_good h hb
       subst e1
       obtain ⟨a2, _, _, o2, p2, l2, v2⟩ := fixedP_good h2 hb
       obtain ⟨a, _, _, o, p, l, v⟩ := fixedP_good h1 a2
       refine ⟨a, ?_, by omega⟩
       match o, l, o2, l2 with
       | [x], _, [y], _ =>
        rw [val_one] at v v2
        rw [p, p2, e2, put_2 (by omega) (by omega)]
        have e3 : 240 + (240 + (c - 240) * 256 + d - 240) / 256 = x.toNat := by omega
        have e4 : (240 + (c - 240) * 256 + d - 240) % 256 = y.toNat := by omega
        rw [e3, e4]; simp
       | [], l, _, _ => simp at l
       | _ :: _ :: _, l, _, _ => simp at l; omega
       | [_], _, [], l => simp at l
       | [_], _, _ :: _ :: _, l => simp at l; omega
    · by_cases q3 : c ≤ 254
      · cases h2 : fixedP (c - 246 : Nat) s1 with
        | mk s2 d =>
         rw [numP_3 h1 q1 q2 q3 h2] at h
         obtain ⟨his, b2, e1, e2⟩ := mustP_good h hb
         subst e1 e2
         obtain ⟨a2, _, _, o2, p2, l2, v2⟩ := fixedP_good h2 hb
         obtain ⟨a, _, _, o, p, l, v⟩ := fixedP_good h1 a2
         simp only [Bool.and_eq_true, decide_eq_true_eq, beq_iff_eq] at his
         have hlen := put_len n
         rw [if_neg (by omega), if_neg (by omega)] at hlen
         have hw : width n = c - 246 := by omega
         have hn8 : n < 9223372036854775808 := by
          have := fixedP_val (c - 246 : Nat) s1
          rw [h2] at this; simp only at this; omega
         refine ⟨a, ?_, hn8⟩
         match o, l with
         | [x], _ =>
          rw [val_one] at v
          rw [p, p2, put_3 (by omega) (by omega)]
          have e3 : 246 + width n = x.toNat := by omega
          have e4 : digits n (width n) = o2 := by
           refine val_inj (by rw [digits_len]; omega) ?_
           rw [val_digits, Nat.mod_eq_of_lt ((width_le _ n (width_pos n)).1 (Nat.le_refl _)), v2]
          rw [e3, e4]; simp
         | [], l => simp at l
         | _ :: _ :: _, l => simp at l; omega
      · rw [numP_4 h1 q3] at h
        injection h with e1 e2
        rw [← e1] at hb; cases hb
end Go.Ox.Num
