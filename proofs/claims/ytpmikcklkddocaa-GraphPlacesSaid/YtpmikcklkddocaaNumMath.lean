/-
  The plain law of layer 1: numbers as bytes.
  The plain law of layer 1: reading.
  The plain law of layer 1: the bytes stand in the order of the numbers, and none begins another one.
  The plain law of layer 1: what is read is what would be put.
-/
import GoSem.Op.String
namespace Go.Ox.Num

/-- a number's lowest bytes, the highest first -/
def digits (n : Nat) : Nat → List UInt8
  | 0 => []
  | s + 1 => digits (n / 256) s ++ [UInt8.ofNat (n % 256)]
theorem digits_len : ∀ (s n : Nat), (digits n s).length = s
  | 0, _ => rfl
  | s + 1, n => by rw [digits, List.length_append, digits_len s]; rfl

theorem digits_at : ∀ (s n i : Nat) (h : i < (digits n s).length), (digits n s)[i] = UInt8.ofNat (n / 256 ^ (s - 1 - i) % 256)
  | 0, n, i, h => by simp [digits] at h
  | s + 1, n, i, h => by
    rw [digits_len] at h
    simp only [digits]
    rw [List.getElem_append]
    split
    · rename_i h2
      rw [digits_at s (n / 256) i h2]
      rw [digits_len] at h2
      rw [Nat.div_div_eq_div_mul, show s + 1 - 1 - i = (s - 1 - i) + 1 by omega, Nat.pow_succ, Nat.mul_comm 256]
    · rename_i h2
      rw [digits_len] at h2
      have : i = s := by omega
      subst this
      simp
theorem digits_set (n s : Nat) {k : Nat} (hk : k < s) (x : UInt8) (hx : x = UInt8.ofNat (n / 256 ^ (s - 1 - k) % 256)) :
    ((digits n s).take k ++ List.replicate (s - k) 0).set k x = (digits n s).take (k + 1) ++ List.replicate (s - (k + 1)) 0 := by
  have hl := digits_len s n
  have hk' : k < (digits n s).length := by omega
  rw [List.take_succ_eq_append_getElem hk', digits_at s n k hk', ← hx]
  rw [List.set_append_right _ _ (by simp; omega)]
  rw [List.length_take, Nat.min_eq_left (by omega), Nat.sub_self, show s - k = (s - (k + 1)) + 1 by omega, List.replicate_succ, List.set_cons_zero]
  simp

theorem digits_setD (n s : Nat) {j : Nat} (h0 : 0 < j) (hj : j ≤ s) (x : UInt8) (hx : x = UInt8.ofNat (n / 256 ^ (s - j) % 256)) :
    (List.replicate j 0 ++ (digits n s).drop j).set (j - 1) x = List.replicate (j - 1) 0 ++ (digits n s).drop (j - 1) := by
  have hl := digits_len s n
  have hk' : j - 1 < (digits n s).length := by omega
  rw [show (digits n s).drop (j - 1) = (digits n s)[j - 1] :: (digits n s).drop j by
    rw [List.drop_eq_getElem_cons hk', show j - 1 + 1 = j by omega]]
  rw [digits_at s n (j - 1) hk', show s - 1 - (j - 1) = s - j by omega, ← hx]
  obtain ⟨i, rfl⟩ : ∃ i, j = i + 1 := ⟨j - 1, by omega⟩
  rw [show List.replicate (i + 1) (0 : UInt8) = List.replicate i 0 ++ [0] by rw [List.replicate_succ'], List.append_assoc]
  rw [Nat.add_sub_cancel, List.set_append_right _ _ (by simp)]
  simp

/-- how many bytes, as few as can be -/
def width (n : Nat) : Nat := if h : n < 256 then 1 else 1 + width (n / 256)
termination_by n
decreasing_by omega

theorem width_pos (n : Nat) : 1 ≤ width n := by
  unfold width; split <;> omega
theorem width_small {n : Nat} (h : n < 256) : width n = 1 := by unfold width; rw [dif_pos h]
theorem width_big {n : Nat} (h : ¬ n < 256) : width n = 1 + width (n / 256) := by rw [width]; rw [dif_neg h]
theorem width_div (n : Nat) : width n = (if n / 256 = 0 then 1 else 1 + width (n / 256)) := by
  by_cases h : n < 256
  · rw [width_small h, if_pos (by omega)]
  · rw [width_big h, if_neg (by omega)]
theorem width_le : ∀ (k n : Nat), 1 ≤ k → (width n ≤ k ↔ n < 256 ^ k)
  | 0, _, h => by omega
  | k + 1, n, _ => by
    by_cases h : n < 256
    · rw [width_small h]
      have : 256 ≤ 256 ^ (k + 1) := by
        rw [Nat.pow_succ]
        have := Nat.pow_pos (n := k) (show 0 < 256 by omega)
        omega
      constructor <;> intro _ <;> omega
    · rw [width_big h]
      cases k with
      | zero =>
        have := width_pos (n / 256)
        constructor
        · intro h1; omega
        · intro h1; simp at h1; omega
      | succ k =>
        rw [show 1 + width (n / 256) ≤ k + 1 + 1 ↔ width (n / 256) ≤ k + 1 by omega, width_le (k + 1) (n / 256) (by omega), Nat.pow_succ 256 (k + 1)]
        rw [Nat.div_lt_iff_lt_mul (by omega)]

/-- a number's bytes -/
def put (n : Nat) : List UInt8 :=
  if n < 240 then [UInt8.ofNat n]
  else if n < 2288 then [UInt8.ofNat (240 + (n - 240) / 256), UInt8.ofNat ((n - 240) % 256)]
  else UInt8.ofNat (246 + width n) :: digits n (width n)

theorem put_1 {n : Nat} (h : n < 240) : put n = [UInt8.ofNat n] := by unfold put; rw [if_pos h]
theorem put_2 {n : Nat} (h : ¬ n < 240) (h2 : n < 2288) : put n = [UInt8.ofNat (240 + (n - 240) / 256), UInt8.ofNat ((n - 240) % 256)] := by unfold put; rw [if_neg h, if_pos h2]
theorem put_3 {n : Nat} (h : ¬ n < 240) (h2 : ¬ n < 2288) : put n = UInt8.ofNat (246 + width n) :: digits n (width n) := by unfold put; rw [if_neg h, if_neg h2]

theorem put_len (n : Nat) : (put n).length = if n < 240 then 1 else if n < 2288 then 2 else 1 + width n := by
  unfold put
  split
  · rfl
  · split
    · rfl
    · rw [List.length_cons, digits_len]; omega

theorem put_le (n : Nat) : (put n).length ≤ 1 + width n := by
  rw [put_len]
  have := width_pos n
  split
  · omega
  · split <;> omega

theorem width_eq {n k : Nat} (h1 : 1 ≤ k) : (n / 256 ^ k == 0) = decide (width n ≤ k) := by
  have := width_le k n h1
  have hp : 0 < 256 ^ k := Nat.pow_pos (by omega)
  rw [show decide (width n ≤ k) = decide (n < 256 ^ k) from decide_eq_decide.2 this]
  rw [Bool.eq_iff_iff]
  simp [Nat.div_eq_zero_iff]

/-- bytes as a number, the highest first -/
def val (l : List UInt8) : Nat := l.foldl (fun n c => n * 256 + c.toNat) 0
theorem val_nil : val [] = 0 := rfl
theorem val_snoc (l : List UInt8) (c : UInt8) : val (l ++ [c]) = val l * 256 + c.toNat := by simp [val]
theorem val_digits : ∀ (s n : Nat), val (digits n s) = n % 256 ^ s
  | 0, n => by simp [digits, val, Nat.mod_one]
  | s + 1, n => by
    rw [digits, val_snoc, val_digits s, UInt8.toNat_ofNat_of_lt' (by have := Nat.mod_lt n (show 0 < 256 by omega); simpa using this)]
    rw [Nat.pow_succ, Nat.mul_comm (256 ^ s) 256, Nat.mod_mul, Nat.mul_comm, Nat.add_comm]
theorem valFrom : ∀ (l : List UInt8) (n : Nat), l.foldl (fun n c => n * 256 + c.toNat) n = n * 256 ^ l.length + val l
  | [], n => by simp [val]
  | b :: l, n => by
    rw [List.foldl_cons, valFrom l, show val (b :: l) = l.foldl (fun n c => n * 256 + c.toNat) (0 * 256 + b.toNat) from rfl, valFrom l, List.length_cons, Nat.pow_succ, Nat.add_mul, Nat.zero_mul, Nat.zero_add]
    have : n * 256 * 256 ^ l.length = n * (256 ^ l.length * 256) := by rw [Nat.mul_assoc, Nat.mul_comm 256]
    omega
theorem val_cons (b : UInt8) (l : List UInt8) : val (b :: l) = b.toNat * 256 ^ l.length + val l := by
  show l.foldl (fun n c => n * 256 + c.toNat) (0 * 256 + b.toNat) = _
  rw [valFrom, Nat.zero_mul, Nat.zero_add]
theorem val_app (l r : List UInt8) : val (l ++ r) = val l * 256 ^ r.length + val r := by
  show (l ++ r).foldl (fun n c => n * 256 + c.toNat) 0 = _
  rw [List.foldl_append, valFrom]
  rfl
theorem valFrom_lt : ∀ (l : List UInt8) (n : Nat), l.foldl (fun n c => n * 256 + c.toNat) n < (n + 1) * 256 ^ l.length
  | [], n => by simp
  | c :: l, n => by
    have := valFrom_lt l (n * 256 + c.toNat)
    have hc := c.toNat_lt
    rw [List.foldl_cons, List.length_cons, Nat.pow_succ]
    refine Nat.lt_of_lt_of_le this ?_
    rw [Nat.mul_comm (256 ^ l.length) 256, ← Nat.mul_assoc]
    exact Nat.mul_le_mul_right _ (by omega)
theorem val_lt (l : List UInt8) : val l < 256 ^ l.length := by
  have := valFrom_lt l 0
  simpa [val] using this
attribute [irreducible] digits put val
end Go.Ox.Num
namespace Go.Ox.Num

/-- what a reader holds: what is not read, and whether it is bad -/
structure St where
  l : List UInt8
  bad : Bool

def failP (s : St) : St := ⟨s.l, true⟩
def bytesP (n : Int) (s : St) : St × List UInt8 :=
  if s.bad = true ∨ n < 0 ∨ (s.l.length : Int) < n then (failP s, []) else (⟨s.l.drop n.toNat, false⟩, s.l.take n.toNat)
def fixedP (n : Int) (s : St) : St × Nat :=
  if n < 1 ∨ 8 < n then (failP s, 0)
  else if (bytesP n s).1.bad = true ∨ 9223372036854775807 < val (bytesP n s).2 then (failP (bytesP n s).1, 0)
  else ((bytesP n s).1, val (bytesP n s).2)
def mustP (n : Nat) (is : Bool) (s : St) : St × Nat := if s.bad = true ∨ is = false then (failP s, 0) else (s, n)
def numP (s : St) : St × Nat :=
  if (fixedP 1 s).2 < 240 then fixedP 1 s
  else if (fixedP 1 s).2 < 248 then
    mustP (240 + ((fixedP 1 s).2 - 240) * 256 + (fixedP 1 (fixedP 1 s).1).2) true (fixedP 1 (fixedP 1 s).1).1
  else if (fixedP 1 s).2 ≤ 254 then
    mustP (fixedP ((fixedP 1 s).2 - 246 : Nat) (fixedP 1 s).1).2 (decide (2288 ≤ (fixedP ((fixedP 1 s).2 - 246 : Nat) (fixedP 1 s).1).2) && (put (fixedP ((fixedP 1 s).2 - 246 : Nat) (fixedP 1 s).1).2).length == (fixedP 1 s).2 - 245) (fixedP ((fixedP 1 s).2 - 246 : Nat) (fixedP 1 s).1).1
  else (failP (fixedP 1 s).1, 0)
def textP (most : Int) (s : St) : St × List UInt8 :=
  if (numP s).1.bad = true ∨ most < (numP s).2 then (failP (numP s).1, []) else bytesP (numP s).2 (numP s).1
def leftP (s : St) : Nat := if s.bad = true then 0 else s.l.length

theorem bytesP_no {n : Int} {s : St} (h : s.bad = true ∨ n < 0 ∨ (s.l.length : Int) < n) : bytesP n s = (failP s, []) := if_pos h
theorem bytesP_yes {n : Nat} {s : St} (h0 : s.bad = false) (h : n ≤ s.l.length) : bytesP n s = (⟨s.l.drop n, false⟩, s.l.take n) := by
  unfold bytesP
  rw [if_neg (by rw [h0]; simp; omega)]
  simp
theorem bytesP_len (n : Int) (s : St) : (bytesP n s).1.l.length ≤ s.l.length := by
  unfold bytesP failP
  split
  · exact Nat.le_refl _
  · simp
theorem bytesP_out (n : Int) (s : St) : ((bytesP n s).2.length : Int) ≤ n ∨ (bytesP n s).2 = [] := by
  unfold bytesP
  split
  · exact .inr rfl
  · left
    simp; omega
theorem fixedP_len (n : Int) (s : St) : (fixedP n s).1.l.length ≤ s.l.length := by
  unfold fixedP failP
  split
  · exact Nat.le_refl _
  · split <;> exact bytesP_len n s
theorem fixedP_val (n : Int) (s : St) : (fixedP n s).2 ≤ 9223372036854775807 := by
  unfold fixedP
  split
  · simp
  · split
    · simp
    · rename_i h; simp only; omega
theorem val_take {l : List UInt8} {k : Nat} (h : k < l.length) : val (l.take (k + 1)) = val (l.take k) * 256 + l[k].toNat := by
  rw [List.take_succ_eq_append_getElem h, val_snoc]
theorem val_take_le (l : List UInt8) (k : Nat) : val (l.take k) ≤ val l := by
  have h := val_app (l.take k) (l.drop k)
  rw [List.take_append_drop] at h
  rw [h]
  exact Nat.le_trans (Nat.le_mul_of_pos_right _ (Nat.pow_pos (by omega))) (Nat.le_add_right _ _)
theorem val_one (b : UInt8) : val [b] = b.toNat := by simp [val]
theorem bytesP_ok {n : Int} {s t : St} {o : List UInt8} (h : bytesP n s = (t, o)) (hb : t.bad = false) : (o.length : Int) = n := by
  unfold bytesP at h
  split at h
  · injection h with h1 h2
    subst h1
    cases hb
  · injection h with h1 h2
    subst h2
    simp; omega
theorem bytesP_bad {n : Int} {s t : St} {o : List UInt8} (h : bytesP n s = (t, o)) (hb : t.bad = true) : o = [] ∧ failP t = t := by
  unfold bytesP at h
  split at h
  · injection h with h1 h2
    subst h1; subst h2
    exact ⟨rfl, rfl⟩
  · injection h with h1 h2
    subst h1
    cases hb
theorem fixedP_no {n : Int} {s : St} (h : n < 1 ∨ 8 < n) : fixedP n s = (failP s, 0) := if_pos h
theorem fixedP_bad {n : Int} {s : St} (h : ¬ (n < 1 ∨ 8 < n)) (h2 : (bytesP n s).1.bad = true ∨ 9223372036854775807 < val (bytesP n s).2) : fixedP n s = (failP (bytesP n s).1, 0) := by
  unfold fixedP; rw [if_neg h, if_pos h2]
theorem fixedP_ok {n : Int} {s : St} (h : ¬ (n < 1 ∨ 8 < n)) (h2 : ¬ ((bytesP n s).1.bad = true ∨ 9223372036854775807 < val (bytesP n s).2)) : fixedP n s = ((bytesP n s).1, val (bytesP n s).2) := by
  unfold fixedP; rw [if_neg h, if_neg h2]
theorem val_lt_one {l : List UInt8} (h : l.length ≤ 1) : val l < 256 := by
  have := val_lt l
  have h2 : 256 ^ l.length ≤ 256 ^ 1 := Nat.pow_le_pow_right (by omega) h
  omega
theorem fixedP_byte (s : St) : (fixedP 1 s).2 < 256 := by
  have h := bytesP_out 1 s
  have hl : (bytesP 1 s).2.length ≤ 1 := by
    rcases h with h | h
    · omega
    · simp [h]
  have := val_lt_one hl
  unfold fixedP
  split
  · simp
  · split
    · simp
    · exact this
/-- one byte: there is none, or it is that -/
theorem fixedP_1 (s : St) : ((bytesP 1 s).1.bad = true ∧ (fixedP 1 s).1 = (bytesP 1 s).1 ∧ (fixedP 1 s).2 = 0) ∨
    ((bytesP 1 s).1.bad = false ∧ (fixedP 1 s).1 = (bytesP 1 s).1 ∧ ∃ b, (bytesP 1 s).2 = [b] ∧ (fixedP 1 s).2 = b.toNat) := by
  cases hp : bytesP 1 s with
  | mk t o =>
    have hbd := fun h => bytesP_bad hp h
    have hok := fun h => bytesP_ok hp h
    unfold fixedP
    rw [if_neg (by omega), hp]
    dsimp only
    cases hb : t.bad with
    | true =>
      left
      rw [if_pos (.inl rfl)]
      exact ⟨rfl, (hbd hb).2, rfl⟩
    | false =>
      right
      have hl := hok hb
      match o, hl with
      | [b], _ =>
        have := b.toNat_lt
        rw [val_one, if_neg (by simp; omega)]
        exact ⟨rfl, rfl, b, rfl, rfl⟩
      | [], hl => simp at hl
      | _ :: _ :: _, hl => simp at hl; omega
theorem numP_1 {s s1 : St} {c : Nat} (h : fixedP 1 s = (s1, c)) (hc : c < 240) : numP s = (s1, c) := by
  unfold numP; rw [h]; simp [hc]
theorem numP_2 {s s1 s2 : St} {c d : Nat} (h : fixedP 1 s = (s1, c)) (h0 : ¬ c < 240) (hc : c < 248) (h2 : fixedP 1 s1 = (s2, d)) : numP s = mustP (240 + (c - 240) * 256 + d) true s2 := by
  unfold numP; rw [h]; simp [h0, hc, h2]
theorem numP_3 {s s1 s2 : St} {c n : Nat} (h : fixedP 1 s = (s1, c)) (h0 : ¬ c < 240) (h1 : ¬ c < 248) (hc : c ≤ 254) (h2 : fixedP (c - 246 : Nat) s1 = (s2, n)) :
    numP s = mustP n (decide (2288 ≤ n) && (put n).length == c - 245) s2 := by
  unfold numP; rw [h]; simp [h0, h1, hc, h2]
theorem numP_4 {s s1 : St} {c : Nat} (h : fixedP 1 s = (s1, c)) (hc : ¬ c ≤ 254) : numP s = (failP s1, 0) := by
  unfold numP; rw [h]; simp [show ¬ c < 240 by omega, show ¬ c < 248 by omega, hc]
/-- eight bytes are too great a number just where the first one is beyond 127 -/
theorem val_top {l : List UInt8} (h : l.length = 8) : 9223372036854775807 < val l ↔ 127 < (l[0]'(by omega)).toNat := by
  cases l with
  | nil => simp at h
  | cons b l =>
    have hl : l.length = 7 := by simpa using h
    have hv := val_lt l
    rw [hl] at hv
    rw [val_cons, hl]
    simp only [List.getElem_cons_zero]
    omega
theorem val_small {l : List UInt8} (h : l.length ≤ 7) : val l ≤ 9223372036854775807 := by
  have hv := val_lt l
  have : 256 ^ l.length ≤ 256 ^ 7 := Nat.pow_le_pow_right (by omega) h
  omega
theorem mustP_no {n : Nat} {is : Bool} {s : St} (h : s.bad = true ∨ is = false) : mustP n is s = (failP s, 0) := if_pos h
theorem mustP_yes {n : Nat} {s : St} (h : s.bad = false) : mustP n true s = (s, n) := by unfold mustP; rw [if_neg (by simp [h])]
theorem mustP_yesB {n : Nat} {is : Bool} {s : St} (h : is = true) (h2 : s.bad = false) : mustP n is s = (s, n) := by rw [h]; exact mustP_yes h2
theorem mustP_len (n : Nat) (is : Bool) (s : St) : (mustP n is s).1.l.length ≤ s.l.length := by
  unfold mustP failP; split <;> exact Nat.le_refl _
theorem numP_len (s : St) : (numP s).1.l.length ≤ s.l.length := by
  have h1 := fixedP_len 1 s
  unfold numP
  split
  · exact h1
  · split
    · exact Nat.le_trans (mustP_len _ _ _) (Nat.le_trans (fixedP_len _ _) h1)
    · split
      · exact Nat.le_trans (mustP_len _ _ _) (Nat.le_trans (fixedP_len _ _) h1)
      · exact h1
theorem textP_len (n : Int) (s : St) : (textP n s).1.l.length ≤ s.l.length := by
  have h1 := numP_len s
  unfold textP
  split
  · exact h1
  · exact Nat.le_trans (bytesP_len _ _) h1
theorem fixedP_app {l r : List UInt8} (h1 : 1 ≤ l.length) (h2 : l.length ≤ 8) (h3 : val l ≤ 9223372036854775807) : fixedP l.length ⟨l ++ r, false⟩ = (⟨r, false⟩, val l) := by
  unfold fixedP
  rw [if_neg (by omega), bytesP_yes rfl (by simp)]
  rw [if_neg (by simp; omega)]
  simp
theorem fixedP_one (b : UInt8) (r : List UInt8) : fixedP 1 ⟨b :: r, false⟩ = (⟨r, false⟩, b.toNat) := by
  have := fixedP_app (l := [b]) (r := r) (by simp) (by simp) (by rw [val_one]; have := b.toNat_lt; omega)
  rw [val_one] at this
  exact this
theorem numP_put {n : Nat} (hn : n < 9223372036854775808) (r : List UInt8) : numP ⟨put n ++ r, false⟩ = (⟨r, false⟩, n) := by
  have hb : ∀ m : Nat, m < 256 → (UInt8.ofNat m).toNat = m := fun m h => UInt8.toNat_ofNat_of_lt' (by simpa using h)
  by_cases h1 : n < 240
  · rw [put_1 h1]
    unfold numP
    rw [List.singleton_append, fixedP_one, hb n (by omega)]
    simp only [if_pos h1]
  by_cases h2 : n < 2288
  · rw [put_2 h1 h2]
    unfold numP
    rw [List.cons_append, fixedP_one, hb _ (by omega)]
    simp only [List.singleton_append, fixedP_one]
    rw [if_neg (by omega), if_pos (by omega), hb _ (by omega)]
    unfold mustP
    rw [if_neg (by simp)]
    have e : 240 + (240 + (n - 240) / 256 - 240) * 256 + (n - 240) % 256 = n := by omega
    rw [e]
  · have hw := (width_le 8 n (by omega)).2 (by omega)
    have hw1 : ¬ width n ≤ 1 := fun h => by have := (width_le 1 n (by omega)).1 h; omega
    have hlen : (put n).length = 1 + width n := by rw [put_len, if_neg h1, if_neg h2]
    have hv : val (digits n (width n)) = n := by
      rw [val_digits, Nat.mod_eq_of_lt ((width_le _ n (width_pos n)).1 (Nat.le_refl _))]
    have hd := digits_len (width n) n
    have hf := fixedP_app (l := digits n (width n)) (r := r) (by omega) (by omega) (by rw [hv]; omega)
    rw [hd, hv] at hf
    have hp := put_3 h1 h2
    unfold numP
    rw [hp, List.cons_append, fixedP_one, hb _ (by omega)]
    simp only
    rw [if_neg (by omega), if_neg (by omega), if_pos (by omega)]
    rw [show 246 + width n - 246 = width n by omega, hf]
    unfold mustP
    simp only
    rw [hlen]
    rw [if_neg (by simp; omega)]
theorem textP_app {s : List UInt8} {most : Nat} (hn : s.length ≤ most) (hm : most < 9223372036854775808) (r : List UInt8) : textP most ⟨put s.length ++ s ++ r, false⟩ = (⟨r, false⟩, s) := by
  unfold textP
  rw [List.append_assoc, numP_put (by omega)]
  rw [if_neg (by simp; omega), bytesP_yes rfl (by simp)]
  simp
end Go.Ox.Num
namespace Go.Ox.Num
open Go.Op

theorem less_val : ∀ (a b : List UInt8), a.length = b.length → bytesLess a b = decide (val a < val b)
  | [], [], _ => by simp [bytesLess]
  | x :: a, y :: b, h => by
    have hl : a.length = b.length := by simpa using h
    have ih := less_val a b hl
    have ha := val_lt a
    have hb := val_lt b
    rw [bytesLess, ih, val_cons, val_cons, ← hl]
    rw [← hl] at hb
    generalize 256 ^ a.length = p at *
    by_cases hxy : x.toNat < y.toNat
    · have h1 : x < y := UInt8.lt_iff_toNat_lt.2 hxy
      have : x.toNat * p + val a < y.toNat * p + val b := by
        have : (x.toNat + 1) * p ≤ y.toNat * p := Nat.mul_le_mul_right _ hxy
        rw [Nat.add_mul] at this
        omega
      simp [h1, this]
    · by_cases he : x.toNat = y.toNat
      · have h1 : x = y := UInt8.toNat_inj.1 he
        subst h1
        have h2 : ¬ x < x := by rw [UInt8.lt_iff_toNat_lt]; omega
        simp [h2]
      · have h1 : ¬ x < y := by rw [UInt8.lt_iff_toNat_lt]; exact hxy
        have h2 : x ≠ y := fun h => he (by rw [h])
        have : ¬ x.toNat * p + val a < y.toNat * p + val b := by
          have : (y.toNat + 1) * p ≤ x.toNat * p := Nat.mul_le_mul_right _ (by omega)
          rw [Nat.add_mul] at this
          omega
        simp [h1, h2, this]

/-- the first byte -/
def hd (n : Nat) : Nat := if n < 240 then n else if n < 2288 then 240 + (n - 240) / 256 else 246 + width n
theorem hd_lt {n : Nat} (hn : n < 9223372036854775808) : hd n < 256 := by
  have := (width_le 8 n (by omega)).2 (by omega)
  unfold hd; split
  · omega
  · split <;> omega
theorem put_hd {n : Nat} (hn : n < 9223372036854775808) : ∃ t, put n = UInt8.ofNat (hd n) :: t ∧ t.length = (if hd n < 240 then 0 else if hd n < 248 then 1 else hd n - 246) := by
  have hw := (width_le 8 n (by omega)).2 (by omega)
  by_cases h1 : n < 240
  · have : hd n = n := by unfold hd; rw [if_pos h1]
    exact ⟨[], by rw [put_1 h1, this], by rw [this, if_pos h1]; rfl⟩
  · by_cases h2 : n < 2288
    · have : hd n = 240 + (n - 240) / 256 := by unfold hd; rw [if_neg h1, if_pos h2]
      refine ⟨[UInt8.ofNat ((n - 240) % 256)], by rw [put_2 h1 h2, this], ?_⟩
      rw [this, if_neg (by omega), if_pos (by omega)]; rfl
    · have : hd n = 246 + width n := by unfold hd; rw [if_neg h1, if_neg h2]
      have hw1 : ¬ width n ≤ 1 := fun h => by have := (width_le 1 n (by omega)).1 h; omega
      refine ⟨digits n (width n), by rw [put_3 h1 h2, this], ?_⟩
      rw [this, digits_len, if_neg (by omega), if_neg (by omega)]; omega
theorem hd_toNat {n : Nat} (hn : n < 9223372036854775808) : (UInt8.ofNat (hd n)).toNat = hd n := UInt8.toNat_ofNat_of_lt' (by have := hd_lt hn; simpa using this)
theorem hd_mono {n m : Nat} (h : hd n < hd m) : n < m := by
  rcases Nat.lt_or_ge n m with h' | h'
  · exact h'
  · exfalso
    unfold hd at h
    have hwm : n < 2288 ∨ width m ≤ width n := by
      by_cases hc : width m ≤ width n
      · exact .inr hc
      · left
        have hp := width_pos n
        have h3 : n < 256 ^ width n := (width_le _ n hp).1 (Nat.le_refl _)
        have := (width_le (width n) m hp).2 (by omega)
        omega
    have hw2 : ∀ m : Nat, m < 2288 ∨ 2 ≤ width m := fun m => by
      by_cases hc : m < 256
      · left; omega
      · right
        have : ¬ width m ≤ 1 := fun h => by have := (width_le 1 m (by omega)).1 h; omega
        omega
    have hw1 := hw2 m
    have hwn := hw2 n
    split at h
    · split at h
      · omega
      · omega
    · split at h
      · split at h
        · omega
        · split at h
          · have : (n - 240) / 256 ≥ (m - 240) / 256 := Nat.div_le_div_right (by omega)
            omega
          · omega
      · split at h
        · omega
        · split at h
          · omega
          · omega
theorem put_inj {n m : Nat} (hn : n < 9223372036854775808) (hm : m < 9223372036854775808) (h : put n = put m) : n = m := by
  have h1 := numP_put hn []
  have h2 := numP_put hm []
  rw [h, h2] at h1
  injection h1 with _ h1
  exact h1.symm
theorem put_val {n m : Nat} (hn : n < 9223372036854775808) (hm : m < 9223372036854775808) (h : hd n = hd m) : (val (put n) < val (put m)) ↔ n < m := by
  have hv : ∀ k, k < 9223372036854775808 → val (put k) = (if k < 240 then k else if k < 2288 then (240 * 256 - 240) + k else (246 + width k) * 256 ^ width k + k) := by
    intro k hk
    have hw := (width_le 8 k (by omega)).2 (by omega)
    have hb : ∀ x : Nat, x < 256 → (UInt8.ofNat x).toNat = x := fun x h => UInt8.toNat_ofNat_of_lt' (by simpa using h)
    by_cases h1 : k < 240
    · rw [if_pos h1, put_1 h1, val_one, hb _ (by omega)]
    · by_cases h2 : k < 2288
      · rw [if_neg h1, if_pos h2, put_2 h1 h2, val_cons, val_one, hb _ (by omega), hb _ (by omega)]
        simp only [List.length_cons, List.length_nil, Nat.zero_add, Nat.pow_one]
        omega
      · rw [if_neg h1, if_neg h2, put_3 h1 h2, val_cons, digits_len, hb _ (by omega), val_digits, Nat.mod_eq_of_lt ((width_le _ k (width_pos k)).1 (Nat.le_refl _))]
  rw [hv n hn, hv m hm]
  unfold hd at h
  have hw : ∀ k, ¬ k < 2288 → 2 ≤ width k := fun k hk => by
    have : ¬ width k ≤ 1 := fun h => by have := (width_le 1 k (by omega)).1 h; omega
    omega
  have hn2 := hw n
  have hm2 := hw m
  by_cases a1 : n < 240
  · by_cases b1 : m < 240
    · simp [a1, b1]
    · by_cases b2 : m < 2288 <;> simp [a1, b1, b2] at h <;> omega
  · by_cases a2 : n < 2288
    · by_cases b1 : m < 240
      · simp [a1, a2, b1] at h; omega
      · by_cases b2 : m < 2288
        · simp [a1, a2, b1, b2]
        · simp [a1, a2, b1, b2] at h; have := hm2 b2; omega
    · by_cases b1 : m < 240
      · simp [a1, a2, b1] at h; omega
      · by_cases b2 : m < 2288
        · simp [a1, a2, b1, b2] at h; have := hn2 a2; omega
        · simp only [a1, a2, b1, b2, if_false] at h ⊢
          have : width n = width m := by omega
          rw [this]; omega
/-- the bytes stand in the order of the numbers -/
theorem put_less {n m : Nat} (hn : n < 9223372036854775808) (hm : m < 9223372036854775808) : bytesLess (put n) (put m) = decide (n < m) := by
  obtain ⟨t, ht, hl⟩ := put_hd hn
  obtain ⟨u, hu, hk⟩ := put_hd hm
  have e1 := hd_toNat hn
  have e2 := hd_toNat hm
  by_cases h : hd n = hd m
  · rw [less_val _ _ (by rw [ht, hu]; simp [hl, hk, h])]
    exact decide_eq_decide.2 (put_val hn hm h)
  · rw [ht, hu, bytesLess]
    rcases Nat.lt_or_gt_of_ne h with h | h
    · have h1 : UInt8.ofNat (hd n) < UInt8.ofNat (hd m) := UInt8.lt_iff_toNat_lt.2 (by omega)
      have := hd_mono h
      simp [h1, this]
    · have h1 : ¬ UInt8.ofNat (hd n) < UInt8.ofNat (hd m) := by rw [UInt8.lt_iff_toNat_lt]; omega
      have h2 : UInt8.ofNat (hd n) ≠ UInt8.ofNat (hd m) := fun he => by rw [he] at e1; omega
      have := hd_mono h
      rw [decide_eq_false h1, beq_eq_false_iff_ne.2 h2, Bool.false_or, Bool.false_and]
      symm
      simp only [decide_eq_false_iff_not]
      omega
/-- and none begins another one -/
theorem put_pre {n m : Nat} (hn : n < 9223372036854775808) (hm : m < 9223372036854775808) (hne : n ≠ m) : (put m).take (put n).length ≠ put n := by
  intro h
  obtain ⟨t, ht, hlt⟩ := put_hd hn
  obtain ⟨u, hu, hlu⟩ := put_hd hm
  have e : hd n = hd m := by
    rw [ht, hu] at h
    simp only [List.length_cons, List.take_succ_cons, List.cons.injEq] at h
    have e1 := hd_toNat hn
    have e2 := hd_toNat hm
    rw [h.1] at e2
    omega
  have : (put n).length = (put m).length := by rw [ht, hu]; simp [hlt, hlu, e]
  rw [this, List.take_length] at h
  exact hne (put_inj hn hm h.symm)
end Go.Ox.Num
namespace Go.Ox.Num
open Go.Op

theorem fixedP_good {n : Int} {s t : St} {v : Nat} (h : fixedP n s = (t, v)) (hb : t.bad = false) : s.bad = false ∧ 1 ≤ n ∧ n ≤ 8 ∧ ∃ o : List UInt8, s.l = o ++ t.l ∧ (o.length : Int) = n ∧ v = val o := by
  unfold fixedP at h
  split at h
  · injection h with h1 h2; rw [← h1] at hb; cases hb
  · split at h
    · injection h with h1 h2; rw [← h1] at hb; cases hb
    · rename_i h0 h1
      unfold bytesP at h h1
      by_cases hc : s.bad = true ∨ n < 0 ∨ (s.l.length : Int) < n
      · rw [if_pos hc] at h1; exact absurd (.inl rfl) h1
      · rw [if_neg hc] at h
        injection h with e1 e2
        refine ⟨by cases hs : s.bad with | true => exact absurd (.inl hs) hc | false => rfl, by omega, by omega, s.l.take n.toNat, ?_, ?_, e2.symm⟩
        · rw [← e1]; simp
        · rw [List.length_take]; omega
theorem val_inj : ∀ {a b : List UInt8}, a.length = b.length → val a = val b → a = b
  | [], [], _, _ => rfl
  | x :: a, y :: b, h, hv => by
    have hl : a.length = b.length := by simpa using h
    have ha := val_lt a
    have hb := val_lt b
    rw [val_cons, val_cons, ← hl] at hv
    rw [← hl] at hb
    have key : x.toNat = y.toNat ∧ val a = val b := by
      generalize 256 ^ a.length = p at *
      rcases Nat.lt_trichotomy x.toNat y.toNat with q | q | q
      · have : (x.toNat + 1) * p ≤ y.toNat * p := Nat.mul_le_mul_right _ q
        rw [Nat.add_mul] at this; omega
      · rw [q] at hv; exact ⟨q, by omega⟩
      · have : (y.toNat + 1) * p ≤ x.toNat * p := Nat.mul_le_mul_right _ q
        rw [Nat.add_mul] at this; omega
    rw [UInt8.toNat_inj.1 key.1, val_inj hl key.2]
theorem mustP_good {n v : Nat} {is : Bool} {s t : St} (h : mustP n is s = (t, v)) (hb : t.bad = false) : is = true ∧ s.bad = false ∧ t = s ∧ v = n := by
  unfold mustP at h
  split at h
  · injection h with h1 h2; rw [← h1] at hb; cases hb
  · rename_i hc
    injection h with h1 h2
    refine ⟨by cases q : is with | true => rfl | false => exact absurd (.inr q) hc, by cases q : s.bad with | true => exact absurd (.inl q) hc | false => rfl, h1.symm, h2.symm⟩
theorem numP_canon {s t : St} {n : Nat} (h : numP s = (t, n)) (hb : t.bad = false) : s.bad = false ∧ s.l = put n ++ t.l ∧ n < 9223372036854775808 := by
  cases h1 : fixedP 1 s with
  | mk s1 c =>
    have hcv := fixedP_byte s
    rw [h1] at hcv
    simp only at hcv
    by_cases q1 : c < 240
    · rw [numP_1 h1 q1] at h
      injection h with e1 e2
      subst e1 e2
      obtain ⟨a, _, _, o, b, l, v⟩ := fixedP_good h1 hb
      refine ⟨a, ?_, by omega⟩
      match o, l with
      | [x], _ => rw [b, v, val_one, put_1 (by rw [v, val_one] at q1; exact q1)]; simp
      | [], l => simp at l
      | _ :: _ :: _, l => simp at l; omega
    · by_cases q2 : c < 248
      · cases h2 : fixedP 1 s1 with
        | mk s2 d =>
          have hdv := fixedP_byte s1
          rw [h2] at hdv
          simp only at hdv
          rw [numP_2 h1 q1 q2 h2] at h
          obtain ⟨_, b2, e1, e2⟩ := mustP_good h hb
          subst e1
          obtain ⟨a2, _, _, o2, p2, l2, v2⟩ := fixedP_good h2 hb
          obtain ⟨a, _, _, o, p, l, v⟩ := fixedP_good h1 a2
          refine ⟨a, ?_, by omega⟩
          match o, l, o2, l2 with
          | [x], _, [y], _ =>
            rw [val_one] at v v2
            rw [p, p2, e2, put_2 (by omega) (by omega)]
            have e3 : 240 + (240 + (c - 240) * 256 + d - 240) / 256 = x.toNat := by omega
            have e4 : (240 + (c - 240) * 256 + d - 240) % 256 = y.toNat := by omega
            rw [e3, e4]; simp
          | [], l, _, _ => simp at l
          | _ :: _ :: _, l, _, _ => simp at l; omega
          | [_], _, [], l => simp at l
          | [_], _, _ :: _ :: _, l => simp at l; omega
      · by_cases q3 : c ≤ 254
        · cases h2 : fixedP (c - 246 : Nat) s1 with
          | mk s2 d =>
            rw [numP_3 h1 q1 q2 q3 h2] at h
            obtain ⟨his, b2, e1, e2⟩ := mustP_good h hb
            subst e1 e2
            obtain ⟨a2, _, _, o2, p2, l2, v2⟩ := fixedP_good h2 hb
            obtain ⟨a, _, _, o, p, l, v⟩ := fixedP_good h1 a2
            simp only [Bool.and_eq_true, decide_eq_true_eq, beq_iff_eq] at his
            have hlen := put_len n
            rw [if_neg (by omega), if_neg (by omega)] at hlen
            have hw : width n = c - 246 := by omega
            have hn8 : n < 9223372036854775808 := by
              have := fixedP_val (c - 246 : Nat) s1
              rw [h2] at this; simp only at this; omega
            refine ⟨a, ?_, hn8⟩
            match o, l with
            | [x], _ =>
              rw [val_one] at v
              rw [p, p2, put_3 (by omega) (by omega)]
              have e3 : 246 + width n = x.toNat := by omega
              have e4 : digits n (width n) = o2 := by
                refine val_inj (by rw [digits_len]; omega) ?_
                rw [val_digits, Nat.mod_eq_of_lt ((width_le _ n (width_pos n)).1 (Nat.le_refl _)), v2]
              rw [e3, e4]; simp
            | [], l => simp at l
            | _ :: _ :: _, l => simp at l; omega
        · rw [numP_4 h1 q3] at h
          injection h with e1 e2
          rw [← e1] at hb; cases hb

/-! ### order with something behind -/
theorem less_same : ∀ (x a b : List UInt8), bytesLess (x ++ a) (x ++ b) = bytesLess a b
  | [], _, _ => rfl
  | c :: x, a, b => by
    rw [List.cons_append, List.cons_append, bytesLess, less_same x a b]
    have : ¬ c < c := by rw [UInt8.lt_iff_toNat_lt]; omega
    simp [this]
theorem less_apart : ∀ (x y a b : List UInt8), y.take x.length ≠ x → x.take y.length ≠ y → bytesLess (x ++ a) (y ++ b) = bytesLess x y
  | [], y, _, _, h, _ => absurd rfl h
  | _ :: _, [], _, _, _, h => absurd rfl h
  | c :: x, d :: y, a, b, h1, h2 => by
    rw [List.cons_append, List.cons_append, bytesLess, bytesLess]
    by_cases hc : c = d
    · subst hc
      rw [less_apart x y a b (fun e => h1 (by simp [e])) (fun e => h2 (by simp [e]))]
    · have : (c == d) = false := by simpa using hc
      rw [this]; simp only [Bool.false_and, Bool.or_false]
end Go.Ox.Num
