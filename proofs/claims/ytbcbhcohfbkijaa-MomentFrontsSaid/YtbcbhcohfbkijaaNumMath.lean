/-
  The plain law of layer 1: numbers as bytes.
-/
namespace Go.Ox.Num

/-- a number's lowest bytes, the highest first -/
def digits (n : Nat) : Nat → List UInt8
  | 0 => []
  | s + 1 => digits (n / 256) s ++ [UInt8.ofNat (n % 256)]
theorem digits_len : ∀ (s n : Nat), (digits n s).length = s
  | 0, _ => rfl
  | s + 1, n => by rw [digits, List.length_append, digits_len s]; rfl

theorem digits_at : ∀ (s n i : Nat) (h : i < (digits n s).length), (digits n s)[i] = UInt8.ofNat (n / 256 ^ (s - 1 - i) % 256)
  | 0, n, i, h => by simp [digits] at h
  | s + 1, n, i, h => by
    rw [digits_len] at h
    simp only [digits]
    rw [List.getElem_append]
    split
    · rename_i h2
      rw [digits_at s (n / 256) i h2]
      rw [digits_len] at h2
      rw [Nat.div_div_eq_div_mul, show s + 1 - 1 - i = (s - 1 - i) + 1 by omega, Nat.pow_succ, Nat.mul_comm 256]
    · rename_i h2
      rw [digits_len] at h2
      have : i = s := by omega
      subst this
      simp
theorem digits_set (n s : Nat) {k : Nat} (hk : k < s) (x : UInt8) (hx : x = UInt8.ofNat (n / 256 ^ (s - 1 - k) % 256)) :
    ((digits n s).take k ++ List.replicate (s - k) 0).set k x = (digits n s).take (k + 1) ++ List.replicate (s - (k + 1)) 0 := by
  have hl := digits_len s n
  have hk' : k < (digits n s).length := by omega
  rw [List.take_succ_eq_append_getElem hk', digits_at s n k hk', ← hx]
  rw [List.set_append_right _ _ (by simp; omega)]
  rw [List.length_take, Nat.min_eq_left (by omega), Nat.sub_self, show s - k = (s - (k + 1)) + 1 by omega, List.replicate_succ, List.set_cons_zero]
  simp

theorem digits_setD (n s : Nat) {j : Nat} (h0 : 0 < j) (hj : j ≤ s) (x : UInt8) (hx : x = UInt8.ofNat (n / 256 ^ (s - j) % 256)) :
    (List.replicate j 0 ++ (digits n s).drop j).set (j - 1) x = List.replicate (j - 1) 0 ++ (digits n s).drop (j - 1) := by
  have hl := digits_len s n
  have hk' : j - 1 < (digits n s).length := by omega
  rw [show (digits n s).drop (j - 1) = (digits n s)[j - 1] :: (digits n s).drop j by
    rw [List.drop_eq_getElem_cons hk', show j - 1 + 1 = j by omega]]
  rw [digits_at s n (j - 1) hk', show s - 1 - (j - 1) = s - j by omega, ← hx]
  obtain ⟨i, rfl⟩ : ∃ i, j = i + 1 := ⟨j - 1, by omega⟩
  rw [show List.replicate (i + 1) (0 : UInt8) = List.replicate i 0 ++ [0] by rw [List.replicate_succ'], List.append_assoc]
  rw [Nat.add_sub_cancel, List.set_append_right _ _ (by simp)]
  simp

/-- how many bytes, as few as can be -/
def width (n : Nat) : Nat := if h : n < 256 then 1 else 1 + width (n / 256)
termination_by n
decreasing_by omega

theorem width_pos (n : Nat) : 1 ≤ width n := by
  unfold width; split <;> omega
theorem width_small {n : Nat} (h : n < 256) : width n = 1 := by unfold width; rw [dif_pos h]
theorem width_big {n : Nat} (h : ¬ n < 256) : width n = 1 + width (n / 256) := by rw [width]; rw [dif_neg h]
theorem width_div (n : Nat) : width n = (if n / 256 = 0 then 1 else 1 + width (n / 256)) := by
  by_cases h : n < 256
  · rw [width_small h, if_pos (by omega)]
  · rw [width_big h, if_neg (by omega)]
theorem width_le : ∀ (k n : Nat), 1 ≤ k → (width n ≤ k ↔ n < 256 ^ k)
  | 0, _, h => by omega
  | k + 1, n, _ => by
    by_cases h : n < 256
    · rw [width_small h]
      have : 256 ≤ 256 ^ (k + 1) := by
        rw [Nat.pow_succ]
        have := Nat.pow_pos (n := k) (show 0 < 256 by omega)
        omega
      constructor <;> intro _ <;> omega
    · rw [width_big h]
      cases k with
      | zero =>
        have := width_pos (n / 256)
        constructor
        · intro h1; omega
        · intro h1; simp at h1; omega
      | succ k =>
        rw [show 1 + width (n / 256) ≤ k + 1 + 1 ↔ width (n / 256) ≤ k + 1 by omega, width_le (k + 1) (n / 256) (by omega), Nat.pow_succ 256 (k + 1)]
        rw [Nat.div_lt_iff_lt_mul (by omega)]

/-- a number's bytes -/
def put (n : Nat) : List UInt8 :=
  if n < 240 then [UInt8.ofNat n]
  else if n < 2288 then [UInt8.ofNat (240 + (n - 240) / 256), UInt8.ofNat ((n - 240) % 256)]
  else UInt8.ofNat (246 + width n) :: digits n (width n)

theorem put_1 {n : Nat} (h : n < 240) : put n = [UInt8.ofNat n] := by unfold put; rw [if_pos h]
theorem put_2 {n : Nat} (h : ¬ n < 240) (h2 : n < 2288) : put n = [UInt8.ofNat (240 + (n - 240) / 256), UInt8.ofNat ((n - 240) % 256)] := by unfold put; rw [if_neg h, if_pos h2]
theorem put_3 {n : Nat} (h : ¬ n < 240) (h2 : ¬ n < 2288) : put n = UInt8.ofNat (246 + width n) :: digits n (width n) := by unfold put; rw [if_neg h, if_neg h2]

theorem put_len (n : Nat) : (put n).length = if n < 240 then 1 else if n < 2288 then 2 else 1 + width n := by
  unfold put
  split
  · rfl
  · split
    · rfl
    · rw [List.length_cons, digits_len]; omega

theorem put_le (n : Nat) : (put n).length ≤ 1 + width n := by
  rw [put_len]
  have := width_pos n
  split
  · omega
  · split <;> omega

theorem width_eq {n k : Nat} (h1 : 1 ≤ k) : (n / 256 ^ k == 0) = decide (width n ≤ k) := by
  have := width_le k n h1
  have hp : 0 < 256 ^ k := Nat.pow_pos (by omega)
  rw [show decide (width n ≤ k) = decide (n < 256 ^ k) from decide_eq_decide.2 this]
  rw [Bool.eq_iff_iff]
  simp [Nat.div_eq_zero_iff]

/-- bytes as a number, the highest first -/
def val (l : List UInt8) : Nat := l.foldl (fun n c => n * 256 + c.toNat) 0
theorem val_nil : val [] = 0 := rfl
theorem val_snoc (l : List UInt8) (c : UInt8) : val (l ++ [c]) = val l * 256 + c.toNat := by simp [val]
theorem val_digits : ∀ (s n : Nat), val (digits n s) = n % 256 ^ s
  | 0, n => by simp [digits, val, Nat.mod_one]
  | s + 1, n => by
    rw [digits, val_snoc, val_digits s, UInt8.toNat_ofNat_of_lt' (by have := Nat.mod_lt n (show 0 < 256 by omega); simpa using this)]
    rw [Nat.pow_succ, Nat.mul_comm (256 ^ s) 256, Nat.mod_mul, Nat.mul_comm, Nat.add_comm]
theorem valFrom : ∀ (l : List UInt8) (n : Nat), l.foldl (fun n c => n * 256 + c.toNat) n = n * 256 ^ l.length + val l
  | [], n => by simp [val]
  | b :: l, n => by
    rw [List.foldl_cons, valFrom l, show val (b :: l) = l.foldl (fun n c => n * 256 + c.toNat) (0 * 256 + b.toNat) from rfl, valFrom l, List.length_cons, Nat.pow_succ, Nat.add_mul, Nat.zero_mul, Nat.zero_add]
    have : n * 256 * 256 ^ l.length = n * (256 ^ l.length * 256) := by rw [Nat.mul_assoc, Nat.mul_comm 256]
    omega
theorem val_cons (b : UInt8) (l : List UInt8) : val (b :: l) = b.toNat * 256 ^ l.length + val l := by
  show l.foldl (fun n c => n * 256 + c.toNat) (0 * 256 + b.toNat) = _
  rw [valFrom, Nat.zero_mul, Nat.zero_add]
theorem val_app (l r : List UInt8) : val (l ++ r) = val l * 256 ^ r.length + val r := by
  show (l ++ r).foldl (fun n c => n * 256 + c.toNat) 0 = _
  rw [List.foldl_append, valFrom]
  rfl
theorem valFrom_lt : ∀ (l : List UInt8) (n : Nat), l.foldl (fun n c => n * 256 + c.toNat) n < (n + 1) * 256 ^ l.length
  | [], n => by simp
  | c :: l, n => by
    have := valFrom_lt l (n * 256 + c.toNat)
    have hc := c.toNat_lt
    rw [List.foldl_cons, List.length_cons, Nat.pow_succ]
    refine Nat.lt_of_lt_of_le this ?_
    rw [Nat.mul_comm (256 ^ l.length) 256, ← Nat.mul_assoc]
    exact Nat.mul_le_mul_right _ (by omega)
theorem val_lt (l : List UInt8) : val l < 256 ^ l.length := by
  have := valFrom_lt l 0
  simpa [val] using this
attribute [irreducible] digits put val
end Go.Ox.Num
