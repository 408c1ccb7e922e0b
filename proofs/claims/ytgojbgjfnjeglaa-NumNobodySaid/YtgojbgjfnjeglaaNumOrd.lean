/-
  The plain law of layer 1: the bytes stand in the order of the numbers, and none begins another one.
-/
import Derived.Test.YtgojbgjfnjeglaaNumRdMath
import GoSem.Op.String
namespace Go.Ox.Num
open Go.Op

theorem less_val : ∀ (a b : List UInt8), a.length = b.length → bytesLess a b = decide (val a < val b)
  | [], [], _ => by simp [bytesLess]
  | x :: a, y :: b, h => by
    have hl : a.length = b.length := by simpa using h
    have ih := less_val a b hl
    have ha := val_lt a
    have hb := val_lt b
    rw [bytesLess, ih, val_cons, val_cons, ← hl]
    rw [← hl] at hb
    generalize 256 ^ a.length = p at *
    by_cases hxy : x.toNat < y.toNat
    · have h1 : x < y := UInt8.lt_iff_toNat_lt.2 hxy
      have : x.toNat * p + val a < y.toNat * p + val b := by
        have : (x.toNat + 1) * p ≤ y.toNat * p := Nat.mul_le_mul_right _ hxy
        rw [Nat.add_mul] at this
        omega
      simp [h1, this]
    · by_cases he : x.toNat = y.toNat
      · have h1 : x = y := UInt8.toNat_inj.1 he
        subst h1
        have h2 : ¬ x < x := by rw [UInt8.lt_iff_toNat_lt]; omega
        simp [h2]
      · have h1 : ¬ x < y := by rw [UInt8.lt_iff_toNat_lt]; exact hxy
        have h2 : x ≠ y := fun h => he (by rw [h])
        have : ¬ x.toNat * p + val a < y.toNat * p + val b := by
          have : (y.toNat + 1) * p ≤ x.toNat * p := Nat.mul_le_mul_right _ (by omega)
          rw [Nat.add_mul] at this
          omega
        simp [h1, h2, this]

/-- the first byte -/
def hd (n : Nat) : Nat := if n < 240 then n else if n < 2288 then 240 + (n - 240) / 256 else 246 + width n
theorem hd_lt {n : Nat} (hn : n < 9223372036854775808) : hd n < 256 := by
  have := (width_le 8 n (by omega)).2 (by omega)
  unfold hd; split
  · omega
  · split <;> omega
theorem put_hd {n : Nat} (hn : n < 9223372036854775808) : ∃ t, put n = UInt8.ofNat (hd n) :: t ∧ t.length = (if hd n < 240 then 0 else if hd n < 248 then 1 else hd n - 246) := by
  have hw := (width_le 8 n (by omega)).2 (by omega)
  by_cases h1 : n < 240
  · have : hd n = n := by unfold hd; rw [if_pos h1]
    exact ⟨[], by rw [put_1 h1, this], by rw [this, if_pos h1]; rfl⟩
  · by_cases h2 : n < 2288
    · have : hd n = 240 + (n - 240) / 256 := by unfold hd; rw [if_neg h1, if_pos h2]
      refine ⟨[UInt8.ofNat ((n - 240) % 256)], by rw [put_2 h1 h2, this], ?_⟩
      rw [this, if_neg (by omega), if_pos (by omega)]; rfl
    · have : hd n = 246 + width n := by unfold hd; rw [if_neg h1, if_neg h2]
      have hw1 : ¬ width n ≤ 1 := fun h => by have := (width_le 1 n (by omega)).1 h; omega
      refine ⟨digits n (width n), by rw [put_3 h1 h2, this], ?_⟩
      rw [this, digits_len, if_neg (by omega), if_neg (by omega)]; omega
theorem hd_toNat {n : Nat} (hn : n < 9223372036854775808) : (UInt8.ofNat (hd n)).toNat = hd n := UInt8.toNat_ofNat_of_lt' (by have := hd_lt hn; simpa using this)
theorem hd_mono {n m : Nat} (h : hd n < hd m) : n < m := by
  rcases Nat.lt_or_ge n m with h' | h'
  · exact h'
  · exfalso
    unfold hd at h
    have hwm : n < 2288 ∨ width m ≤ width n := by
      by_cases hc : width m ≤ width n
      · exact .inr hc
      · left
        have hp := width_pos n
        have h3 : n < 256 ^ width n := (width_le _ n hp).1 (Nat.le_refl _)
        have := (width_le (width n) m hp).2 (by omega)
        omega
    have hw2 : ∀ m : Nat, m < 2288 ∨ 2 ≤ width m := fun m => by
      by_cases hc : m < 256
      · left; omega
      · right
        have : ¬ width m ≤ 1 := fun h => by have := (width_le 1 m (by omega)).1 h; omega
        omega
    have hw1 := hw2 m
    have hwn := hw2 n
    split at h
    · split at h
      · omega
      · omega
    · split at h
      · split at h
        · omega
        · split at h
          · have : (n - 240) / 256 ≥ (m - 240) / 256 := Nat.div_le_div_right (by omega)
            omega
          · omega
      · split at h
        · omega
        · split at h
          · omega
          · omega
theorem put_inj {n m : Nat} (hn : n < 9223372036854775808) (hm : m < 9223372036854775808) (h : put n = put m) : n = m := by
  have h1 := numP_put hn []
  have h2 := numP_put hm []
  rw [h, h2] at h1
  injection h1 with _ h1
  exact h1.symm
theorem put_val {n m : Nat} (hn : n < 9223372036854775808) (hm : m < 9223372036854775808) (h : hd n = hd m) : (val (put n) < val (put m)) ↔ n < m := by
  have hv : ∀ k, k < 9223372036854775808 → val (put k) = (if k < 240 then k else if k < 2288 then (240 * 256 - 240) + k else (246 + width k) * 256 ^ width k + k) := by
    intro k hk
    have hw := (width_le 8 k (by omega)).2 (by omega)
    have hb : ∀ x : Nat, x < 256 → (UInt8.ofNat x).toNat = x := fun x h => UInt8.toNat_ofNat_of_lt' (by simpa using h)
    by_cases h1 : k < 240
    · rw [if_pos h1, put_1 h1, val_one, hb _ (by omega)]
    · by_cases h2 : k < 2288
      · rw [if_neg h1, if_pos h2, put_2 h1 h2, val_cons, val_one, hb _ (by omega), hb _ (by omega)]
        simp only [List.length_cons, List.length_nil, Nat.zero_add, Nat.pow_one]
        omega
      · rw [if_neg h1, if_neg h2, put_3 h1 h2, val_cons, digits_len, hb _ (by omega), val_digits, Nat.mod_eq_of_lt ((width_le _ k (width_pos k)).1 (Nat.le_refl _))]
  rw [hv n hn, hv m hm]
  unfold hd at h
  have hw : ∀ k, ¬ k < 2288 → 2 ≤ width k := fun k hk => by
    have : ¬ width k ≤ 1 := fun h => by have := (width_le 1 k (by omega)).1 h; omega
    omega
  have hn2 := hw n
  have hm2 := hw m
  by_cases a1 : n < 240
  · by_cases b1 : m < 240
    · simp [a1, b1]
    · by_cases b2 : m < 2288 <;> simp [a1, b1, b2] at h <;> omega
  · by_cases a2 : n < 2288
    · by_cases b1 : m < 240
      · simp [a1, a2, b1] at h; omega
      · by_cases b2 : m < 2288
        · simp [a1, a2, b1, b2]
        · simp [a1, a2, b1, b2] at h; have := hm2 b2; omega
    · by_cases b1 : m < 240
      · simp [a1, a2, b1] at h; omega
      · by_cases b2 : m < 2288
        · simp [a1, a2, b1, b2] at h; have := hn2 a2; omega
        · simp only [a1, a2, b1, b2, if_false] at h ⊢
          have : width n = width m := by omega
          rw [this]; omega
/-- the bytes stand in the order of the numbers -/
theorem put_less {n m : Nat} (hn : n < 9223372036854775808) (hm : m < 9223372036854775808) : bytesLess (put n) (put m) = decide (n < m) := by
  obtain ⟨t, ht, hl⟩ := put_hd hn
  obtain ⟨u, hu, hk⟩ := put_hd hm
  have e1 := hd_toNat hn
  have e2 := hd_toNat hm
  by_cases h : hd n = hd m
  · rw [less_val _ _ (by rw [ht, hu]; simp [hl, hk, h])]
    exact decide_eq_decide.2 (put_val hn hm h)
  · rw [ht, hu, bytesLess]
    rcases Nat.lt_or_gt_of_ne h with h | h
    · have h1 : UInt8.ofNat (hd n) < UInt8.ofNat (hd m) := UInt8.lt_iff_toNat_lt.2 (by omega)
      have := hd_mono h
      simp [h1, this]
    · have h1 : ¬ UInt8.ofNat (hd n) < UInt8.ofNat (hd m) := by rw [UInt8.lt_iff_toNat_lt]; omega
      have h2 : UInt8.ofNat (hd n) ≠ UInt8.ofNat (hd m) := fun he => by rw [he] at e1; omega
      have := hd_mono h
      rw [decide_eq_false h1, beq_eq_false_iff_ne.2 h2, Bool.false_or, Bool.false_and]
      symm
      simp only [decide_eq_false_iff_not]
      omega
/-- and none begins another one -/
theorem put_pre {n m : Nat} (hn : n < 9223372036854775808) (hm : m < 9223372036854775808) (hne : n ≠ m) : (put m).take (put n).length ≠ put n := by
  intro h
  obtain ⟨t, ht, hlt⟩ := put_hd hn
  obtain ⟨u, hu, hlu⟩ := put_hd hm
  have e : hd n = hd m := by
    rw [ht, hu] at h
    simp only [List.length_cons, List.take_succ_cons, List.cons.injEq] at h
    have e1 := hd_toNat hn
    have e2 := hd_toNat hm
    rw [h.1] at e2
    omega
  have : (put n).length = (put m).length := by rw [ht, hu]; simp [hlt, hlu, e]
  rw [this, List.take_length] at h
  exact hne (put_inj hn hm h.symm)
end Go.Ox.Num
