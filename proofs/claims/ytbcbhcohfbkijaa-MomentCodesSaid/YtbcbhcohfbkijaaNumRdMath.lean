/-
  The plain law of layer 1: reading.
-/
import Derived.Test.YtbcbhcohfbkijaaNumMath
namespace Go.Ox.Num

/-- what a reader holds: what is not read, and whether it is bad -/
structure St where
  l : List UInt8
  bad : Bool

def failP (s : St) : St := ⟨s.l, true⟩
def bytesP (n : Int) (s : St) : St × List UInt8 :=
  if s.bad = true ∨ n < 0 ∨ (s.l.length : Int) < n then (failP s, []) else (⟨s.l.drop n.toNat, false⟩, s.l.take n.toNat)
def fixedP (n : Int) (s : St) : St × Nat :=
  if n < 1 ∨ 8 < n then (failP s, 0)
  else if (bytesP n s).1.bad = true ∨ 9223372036854775807 < val (bytesP n s).2 then (failP (bytesP n s).1, 0)
  else ((bytesP n s).1, val (bytesP n s).2)
def mustP (n : Nat) (is : Bool) (s : St) : St × Nat := if s.bad = true ∨ is = false then (failP s, 0) else (s, n)
def numP (s : St) : St × Nat :=
  if (fixedP 1 s).2 < 240 then fixedP 1 s
  else if (fixedP 1 s).2 < 248 then
    mustP (240 + ((fixedP 1 s).2 - 240) * 256 + (fixedP 1 (fixedP 1 s).1).2) true (fixedP 1 (fixedP 1 s).1).1
  else if (fixedP 1 s).2 ≤ 254 then
    mustP (fixedP ((fixedP 1 s).2 - 246 : Nat) (fixedP 1 s).1).2 (decide (2288 ≤ (fixedP ((fixedP 1 s).2 - 246 : Nat) (fixedP 1 s).1).2) && (put (fixedP ((fixedP 1 s).2 - 246 : Nat) (fixedP 1 s).1).2).length == (fixedP 1 s).2 - 245) (fixedP ((fixedP 1 s).2 - 246 : Nat) (fixedP 1 s).1).1
  else (failP (fixedP 1 s).1, 0)
def textP (most : Int) (s : St) : St × List UInt8 :=
  if (numP s).1.bad = true ∨ most < (numP s).2 then (failP (numP s).1, []) else bytesP (numP s).2 (numP s).1
def leftP (s : St) : Nat := if s.bad = true then 0 else s.l.length

theorem bytesP_no {n : Int} {s : St} (h : s.bad = true ∨ n < 0 ∨ (s.l.length : Int) < n) : bytesP n s = (failP s, []) := if_pos h
theorem bytesP_yes {n : Nat} {s : St} (h0 : s.bad = false) (h : n ≤ s.l.length) : bytesP n s = (⟨s.l.drop n, false⟩, s.l.take n) := by
  unfold bytesP
  rw [if_neg (by rw [h0]; simp; omega)]
  simp
theorem bytesP_len (n : Int) (s : St) : (bytesP n s).1.l.length ≤ s.l.length := by
  unfold bytesP failP
  split
  · exact Nat.le_refl _
  · simp
theorem bytesP_out (n : Int) (s : St) : ((bytesP n s).2.length : Int) ≤ n ∨ (bytesP n s).2 = [] := by
  unfold bytesP
  split
  · exact .inr rfl
  · left
    simp; omega
theorem fixedP_len (n : Int) (s : St) : (fixedP n s).1.l.length ≤ s.l.length := by
  unfold fixedP failP
  split
  · exact Nat.le_refl _
  · split <;> exact bytesP_len n s
theorem fixedP_val (n : Int) (s : St) : (fixedP n s).2 ≤ 9223372036854775807 := by
  unfold fixedP
  split
  · simp
  · split
    · simp
    · rename_i h; simp only; omega
theorem val_take {l : List UInt8} {k : Nat} (h : k < l.length) : val (l.take (k + 1)) = val (l.take k) * 256 + l[k].toNat := by
  rw [List.take_succ_eq_append_getElem h, val_snoc]
theorem val_take_le (l : List UInt8) (k : Nat) : val (l.take k) ≤ val l := by
  have h := val_app (l.take k) (l.drop k)
  rw [List.take_append_drop] at h
  rw [h]
  exact Nat.le_trans (Nat.le_mul_of_pos_right _ (Nat.pow_pos (by omega))) (Nat.le_add_right _ _)
theorem val_one (b : UInt8) : val [b] = b.toNat := by simp [val]
theorem bytesP_ok {n : Int} {s t : St} {o : List UInt8} (h : bytesP n s = (t, o)) (hb : t.bad = false) : (o.length : Int) = n := by
  unfold bytesP at h
  split at h
  · injection h with h1 h2
    subst h1
    cases hb
  · injection h with h1 h2
    subst h2
    simp; omega
theorem bytesP_bad {n : Int} {s t : St} {o : List UInt8} (h : bytesP n s = (t, o)) (hb : t.bad = true) : o = [] ∧ failP t = t := by
  unfold bytesP at h
  split at h
  · injection h with h1 h2
    subst h1; subst h2
    exact ⟨rfl, rfl⟩
  · injection h with h1 h2
    subst h1
    cases hb
theorem fixedP_no {n : Int} {s : St} (h : n < 1 ∨ 8 < n) : fixedP n s = (failP s, 0) := if_pos h
theorem fixedP_bad {n : Int} {s : St} (h : ¬ (n < 1 ∨ 8 < n)) (h2 : (bytesP n s).1.bad = true ∨ 9223372036854775807 < val (bytesP n s).2) : fixedP n s = (failP (bytesP n s).1, 0) := by
  unfold fixedP; rw [if_neg h, if_pos h2]
theorem fixedP_ok {n : Int} {s : St} (h : ¬ (n < 1 ∨ 8 < n)) (h2 : ¬ ((bytesP n s).1.bad = true ∨ 9223372036854775807 < val (bytesP n s).2)) : fixedP n s = ((bytesP n s).1, val (bytesP n s).2) := by
  unfold fixedP; rw [if_neg h, if_neg h2]
theorem val_lt_one {l : List UInt8} (h : l.length ≤ 1) : val l < 256 := by
  have := val_lt l
  have h2 : 256 ^ l.length ≤ 256 ^ 1 := Nat.pow_le_pow_right (by omega) h
  omega
theorem fixedP_byte (s : St) : (fixedP 1 s).2 < 256 := by
  have h := bytesP_out 1 s
  have hl : (bytesP 1 s).2.length ≤ 1 := by
    rcases h with h | h
    · omega
    · simp [h]
  have := val_lt_one hl
  unfold fixedP
  split
  · simp
  · split
    · simp
    · exact this
/-- one byte: there is none, or it is that -/
theorem fixedP_1 (s : St) : ((bytesP 1 s).1.bad = true ∧ (fixedP 1 s).1 = (bytesP 1 s).1 ∧ (fixedP 1 s).2 = 0) ∨
    ((bytesP 1 s).1.bad = false ∧ (fixedP 1 s).1 = (bytesP 1 s).1 ∧ ∃ b, (bytesP 1 s).2 = [b] ∧ (fixedP 1 s).2 = b.toNat) := by
  cases hp : bytesP 1 s with
  | mk t o =>
    have hbd := fun h => bytesP_bad hp h
    have hok := fun h => bytesP_ok hp h
    unfold fixedP
    rw [if_neg (by omega), hp]
    dsimp only
    cases hb : t.bad with
    | true =>
      left
      rw [if_pos (.inl rfl)]
      exact ⟨rfl, (hbd hb).2, rfl⟩
    | false =>
      right
      have hl := hok hb
      match o, hl with
      | [b], _ =>
        have := b.toNat_lt
        rw [val_one, if_neg (by simp; omega)]
        exact ⟨rfl, rfl, b, rfl, rfl⟩
      | [], hl => simp at hl
      | _ :: _ :: _, hl => simp at hl; omega
theorem numP_1 {s s1 : St} {c : Nat} (h : fixedP 1 s = (s1, c)) (hc : c < 240) : numP s = (s1, c) := by
  unfold numP; rw [h]; simp [hc]
theorem numP_2 {s s1 s2 : St} {c d : Nat} (h : fixedP 1 s = (s1, c)) (h0 : ¬ c < 240) (hc : c < 248) (h2 : fixedP 1 s1 = (s2, d)) : numP s = mustP (240 + (c - 240) * 256 + d) true s2 := by
  unfold numP; rw [h]; simp [h0, hc, h2]
theorem numP_3 {s s1 s2 : St} {c n : Nat} (h : fixedP 1 s = (s1, c)) (h0 : ¬ c < 240) (h1 : ¬ c < 248) (hc : c ≤ 254) (h2 : fixedP (c - 246 : Nat) s1 = (s2, n)) :
    numP s = mustP n (decide (2288 ≤ n) && (put n).length == c - 245) s2 := by
  unfold numP; rw [h]; simp [h0, h1, hc, h2]
theorem numP_4 {s s1 : St} {c : Nat} (h : fixedP 1 s = (s1, c)) (hc : ¬ c ≤ 254) : numP s = (failP s1, 0) := by
  unfold numP; rw [h]; simp [show ¬ c < 240 by omega, show ¬ c < 248 by omega, hc]
/-- eight bytes are too great a number just where the first one is beyond 127 -/
theorem val_top {l : List UInt8} (h : l.length = 8) : 9223372036854775807 < val l ↔ 127 < (l[0]'(by omega)).toNat := by
  cases l with
  | nil => simp at h
  | cons b l =>
    have hl : l.length = 7 := by simpa using h
    have hv := val_lt l
    rw [hl] at hv
    rw [val_cons, hl]
    simp only [List.getElem_cons_zero]
    omega
theorem val_small {l : List UInt8} (h : l.length ≤ 7) : val l ≤ 9223372036854775807 := by
  have hv := val_lt l
  have : 256 ^ l.length ≤ 256 ^ 7 := Nat.pow_le_pow_right (by omega) h
  omega
theorem mustP_no {n : Nat} {is : Bool} {s : St} (h : s.bad = true ∨ is = false) : mustP n is s = (failP s, 0) := if_pos h
theorem mustP_yes {n : Nat} {s : St} (h : s.bad = false) : mustP n true s = (s, n) := by unfold mustP; rw [if_neg (by simp [h])]
theorem mustP_yesB {n : Nat} {is : Bool} {s : St} (h : is = true) (h2 : s.bad = false) : mustP n is s = (s, n) := by rw [h]; exact mustP_yes h2
theorem mustP_len (n : Nat) (is : Bool) (s : St) : (mustP n is s).1.l.length ≤ s.l.length := by
  unfold mustP failP; split <;> exact Nat.le_refl _
theorem numP_len (s : St) : (numP s).1.l.length ≤ s.l.length := by
  have h1 := fixedP_len 1 s
  unfold numP
  split
  · exact h1
  · split
    · exact Nat.le_trans (mustP_len _ _ _) (Nat.le_trans (fixedP_len _ _) h1)
    · split
      · exact Nat.le_trans (mustP_len _ _ _) (Nat.le_trans (fixedP_len _ _) h1)
      · exact h1
theorem textP_len (n : Int) (s : St) : (textP n s).1.l.length ≤ s.l.length := by
  have h1 := numP_len s
  unfold textP
  split
  · exact h1
  · exact Nat.le_trans (bytesP_len _ _) h1
theorem fixedP_app {l r : List UInt8} (h1 : 1 ≤ l.length) (h2 : l.length ≤ 8) (h3 : val l ≤ 9223372036854775807) : fixedP l.length ⟨l ++ r, false⟩ = (⟨r, false⟩, val l) := by
  unfold fixedP
  rw [if_neg (by omega), bytesP_yes rfl (by simp)]
  rw [if_neg (by simp; omega)]
  simp
theorem fixedP_one (b : UInt8) (r : List UInt8) : fixedP 1 ⟨b :: r, false⟩ = (⟨r, false⟩, b.toNat) := by
  have := fixedP_app (l := [b]) (r := r) (by simp) (by simp) (by rw [val_one]; have := b.toNat_lt; omega)
  rw [val_one] at this
  exact this
theorem numP_put {n : Nat} (hn : n < 9223372036854775808) (r : List UInt8) : numP ⟨put n ++ r, false⟩ = (⟨r, false⟩, n) := by
  have hb : ∀ m : Nat, m < 256 → (UInt8.ofNat m).toNat = m := fun m h => UInt8.toNat_ofNat_of_lt' (by simpa using h)
  by_cases h1 : n < 240
  · rw [put_1 h1]
    unfold numP
    rw [List.singleton_append, fixedP_one, hb n (by omega)]
    simp only [if_pos h1]
  by_cases h2 : n < 2288
  · rw [put_2 h1 h2]
    unfold numP
    rw [List.cons_append, fixedP_one, hb _ (by omega)]
    simp only [List.singleton_append, fixedP_one]
    rw [if_neg (by omega), if_pos (by omega), hb _ (by omega)]
    unfold mustP
    rw [if_neg (by simp)]
    have e : 240 + (240 + (n - 240) / 256 - 240) * 256 + (n - 240) % 256 = n := by omega
    rw [e]
  · have hw := (width_le 8 n (by omega)).2 (by omega)
    have hw1 : ¬ width n ≤ 1 := fun h => by have := (width_le 1 n (by omega)).1 h; omega
    have hlen : (put n).length = 1 + width n := by rw [put_len, if_neg h1, if_neg h2]
    have hv : val (digits n (width n)) = n := by
      rw [val_digits, Nat.mod_eq_of_lt ((width_le _ n (width_pos n)).1 (Nat.le_refl _))]
    have hd := digits_len (width n) n
    have hf := fixedP_app (l := digits n (width n)) (r := r) (by omega) (by omega) (by rw [hv]; omega)
    rw [hd, hv] at hf
    have hp := put_3 h1 h2
    unfold numP
    rw [hp, List.cons_append, fixedP_one, hb _ (by omega)]
    simp only
    rw [if_neg (by omega), if_neg (by omega), if_pos (by omega)]
    rw [show 246 + width n - 246 = width n by omega, hf]
    unfold mustP
    simp only
    rw [hlen]
    rw [if_neg (by simp; omega)]
theorem textP_app {s : List UInt8} {most : Nat} (hn : s.length ≤ most) (hm : most < 9223372036854775808) (r : List UInt8) : textP most ⟨put s.length ++ s ++ r, false⟩ = (⟨r, false⟩, s) := by
  unfold textP
  rw [List.append_assoc, numP_put (by omega)]
  rw [if_neg (by simp; omega), bytesP_yes rfl (by simp)]
  simp
end Go.Ox.Num
