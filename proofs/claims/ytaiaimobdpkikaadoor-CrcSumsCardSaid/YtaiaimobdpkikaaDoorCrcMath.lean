/-
  The plain law of layer 2: sums of 32 bits as linear maps of bits.
-/
namespace Go.Ox.Crc

abbrev W32 := BitVec 32
def poly : W32 := 0xedb88320#32

/-- one bit of zero -/
def T (c : W32) : W32 := (c >>> 1) ^^^ (if c.getLsbD 0 then poly else 0#32)
def Tn : Nat → W32 → W32
  | 0, c => c
  | n + 1, c => Tn n (T c)

theorem xor_pp (x y p : W32) : (x ^^^ p) ^^^ (y ^^^ p) = x ^^^ y := by
  rw [BitVec.xor_comm y p, BitVec.xor_assoc, ← BitVec.xor_assoc p p y, BitVec.xor_self, BitVec.zero_xor]
theorem T_xor (a b : W32) : T (a ^^^ b) = T a ^^^ T b := by
  unfold T
  rw [BitVec.ushiftRight_xor_distrib, BitVec.getLsbD_xor]
  cases a.getLsbD 0 <;> cases b.getLsbD 0 <;> simp only [Bool.false_xor, Bool.true_xor, Bool.not_true, Bool.not_false, if_true, Bool.false_eq_true, if_false, BitVec.xor_zero]
  · rw [BitVec.xor_assoc]
  · rw [BitVec.xor_assoc, BitVec.xor_assoc, BitVec.xor_comm poly]
  · rw [xor_pp]
theorem Tn_xor : ∀ (n : Nat) (a b : W32), Tn n (a ^^^ b) = Tn n a ^^^ Tn n b
  | 0, _, _ => rfl
  | n + 1, a, b => by simp only [Tn, T_xor, Tn_xor n]
theorem T_zero : T 0#32 = 0#32 := by decide
theorem Tn_zero : ∀ n, Tn n 0#32 = 0#32
  | 0 => rfl
  | n + 1 => by simp only [Tn, T_zero, Tn_zero n]
theorem Tn_add : ∀ (m n : Nat) (c : W32), Tn (m + n) c = Tn n (Tn m c)
  | 0, n, c => by simp [Tn]
  | m + 1, n, c => by rw [Nat.add_right_comm]; exact Tn_add m n (T c)
theorem Tn_succ (n : Nat) (c : W32) : Tn (n + 1) c = T (Tn n c) := Tn_add n 1 c

/-- the way back -/
def U (c : W32) : W32 := if c.getLsbD 31 then ((c ^^^ poly) <<< 1) ||| 1#32 else c <<< 1
theorem U_T (c : W32) : U (T c) = c := by
  have h31 : (c >>> 1).getLsbD 31 = false := by rw [BitVec.getLsbD_ushiftRight]; exact BitVec.getLsbD_of_ge _ _ (by omega)
  have hp : poly.getLsbD 31 = true := by decide
  unfold U T
  cases h : c.getLsbD 0 with
  | false =>
    simp only [Bool.false_eq_true, if_false, BitVec.xor_zero, h31]
    apply BitVec.eq_of_getLsbD_eq
    intro i hi
    simp only [BitVec.getLsbD_shiftLeft, BitVec.getLsbD_ushiftRight]
    cases i with
    | zero => rw [h]; rfl
    | succ i =>
      have : 1 + (i + 1 - 1) = i + 1 := by omega
      simp only [this, hi, decide_true, Bool.true_and, show ¬ (i + 1 < 1) by omega, decide_false, Bool.not_false]
  | true =>
    simp only [if_true, BitVec.getLsbD_xor, h31, hp, Bool.false_xor]
    rw [BitVec.xor_assoc, BitVec.xor_self, BitVec.xor_zero]
    apply BitVec.eq_of_getLsbD_eq
    intro i hi
    simp only [BitVec.getLsbD_or, BitVec.getLsbD_shiftLeft, BitVec.getLsbD_ushiftRight]
    cases i with
    | zero => rw [h, decide_eq_true (show 0 < 1 by omega)]; simp only [Bool.not_true, Bool.and_false, Bool.false_and, Bool.false_or]; decide
    | succ i =>
      have : 1 + (i + 1 - 1) = i + 1 := by omega
      have h1 : (1#32).getLsbD (i + 1) = false := by
        rw [BitVec.getLsbD_one]; simp
      simp only [this, hi, decide_true, Bool.true_and, show ¬ (i + 1 < 1) by omega, decide_false, Bool.not_false, h1, Bool.or_false]
theorem T_inj {a b : W32} (h : T a = T b) : a = b := by rw [← U_T a, h, U_T]
theorem Tn_inj : ∀ (n : Nat) {a b : W32}, Tn n a = Tn n b → a = b
  | 0, _, _, h => h
  | n + 1, _, _, h => T_inj (Tn_inj n h)

/-- the low bits go out one by one -/
theorem Tn_high : ∀ (n : Nat) (c : W32), (∀ i, i < n → c.getLsbD i = false) → Tn n c = c >>> n
  | 0, c, _ => by simp [Tn]
  | n + 1, c, h => by
    have h0 : T c = c >>> 1 := by
      unfold T
      rw [h 0 (by omega)]
      simp
    rw [Tn, h0, Tn_high n (c >>> 1) (fun i hi => by rw [BitVec.getLsbD_ushiftRight]; exact h (1 + i) (by omega)), Nat.add_comm n 1, BitVec.shiftRight_add]

/-- half a byte at once -/
theorem half (c : W32) : Tn 4 (c &&& 15#32) ^^^ (c >>> 4) = Tn 4 c := by
  have hs : c = (c &&& 15#32) ^^^ (c &&& ~~~15#32) := by
    apply BitVec.eq_of_getLsbD_eq
    intro i hi
    simp only [BitVec.getLsbD_xor, BitVec.getLsbD_and, BitVec.getLsbD_not, hi, decide_true, Bool.true_and]
    cases c.getLsbD i <;> cases (15#32).getLsbD i <;> rfl
  have h15 : ∀ i, i < 4 → (15#32).getLsbD i = true := by decide
  have hh : Tn 4 (c &&& ~~~15#32) = c >>> 4 := by
    rw [Tn_high 4]
    · apply BitVec.eq_of_getLsbD_eq
      intro i hi
      rw [BitVec.getLsbD_ushiftRight, BitVec.getLsbD_ushiftRight, BitVec.getLsbD_and, BitVec.getLsbD_not]
      by_cases h4 : 4 + i < 32
      · have : (15#32).getLsbD (4 + i) = false := by
          have : ∀ k, k < 28 → (15#32).getLsbD (4 + k) = false := by decide
          exact this i (by omega)
        rw [this, decide_eq_true h4, Bool.not_false, Bool.and_true, Bool.and_true]
      · rw [BitVec.getLsbD_of_ge c _ (by omega), Bool.false_and]
    · intro i hi
      rw [BitVec.getLsbD_and, BitVec.getLsbD_not, h15 i hi, Bool.not_true, Bool.and_false, Bool.and_false]
  conv => rhs; rw [hs, Tn_xor]
  rw [hh]

/-- one byte -/
def stepB (c : W32) (x : UInt8) : W32 := Tn 8 (c ^^^ x.toBitVec.setWidth 32)
def reg (c : W32) (l : List UInt8) : W32 := l.foldl stepB c
def more (s : W32) (l : List UInt8) : W32 := ~~~(reg (~~~s) l)
def sum (l : List UInt8) : W32 := more 0#32 l

theorem reg_append (c : W32) (a b : List UInt8) : reg c (a ++ b) = reg (reg c a) b := by simp [reg]
theorem reg_snoc (c : W32) (a : List UInt8) (x : UInt8) : reg c (a ++ [x]) = stepB (reg c a) x := by simp [reg]
theorem more_append (s : W32) (a b : List UInt8) : more s (a ++ b) = more (more s a) b := by simp [more, reg_append]

theorem stepB_halves (r : W32) (x : UInt8) :
    Tn 4 ((Tn 4 ((r ^^^ x.toBitVec.setWidth 32) &&& 15#32) ^^^ (r ^^^ x.toBitVec.setWidth 32) >>> 4) &&& 15#32) ^^^
      (Tn 4 ((r ^^^ x.toBitVec.setWidth 32) &&& 15#32) ^^^ (r ^^^ x.toBitVec.setWidth 32) >>> 4) >>> 4 = stepB r x := by
  rw [half, half, ← Tn_add]; rfl

/-! ### matrices -/
def Lin (f : W32 → W32) : Prop := ∀ a b, f (a ^^^ b) = f a ^^^ f b
theorem Lin.zero {f : W32 → W32} (h : Lin f) : f 0#32 = 0#32 := by
  have := h 0#32 0#32
  rw [BitVec.xor_self, BitVec.xor_self] at this
  exact this
theorem lin_Tn (n : Nat) : Lin (Tn n) := Tn_xor n
def bit (i : Nat) : W32 := 1#32 <<< i
/-- what the first k bits become -/
def part (f : W32 → W32) (c : W32) : Nat → W32
  | 0 => 0#32
  | k + 1 => part f c k ^^^ (if c.getLsbD k then f (bit k) else 0#32)
def low (c : W32) : Nat → W32
  | 0 => 0#32
  | k + 1 => low c k ^^^ (if c.getLsbD k then bit k else 0#32)
theorem part_low {f : W32 → W32} (h : Lin f) (c : W32) : ∀ k, part f c k = f (low c k)
  | 0 => h.zero.symm
  | k + 1 => by
    rw [part, low, h, part_low h c k]
    split
    · rfl
    · rw [h.zero]
theorem getLsbD_bit (k i : Nat) (hi : i < 32) : (bit k).getLsbD i = decide (i = k) := by
  unfold bit
  rw [BitVec.getLsbD_shiftLeft, BitVec.getLsbD_one]
  by_cases h : i = k
  · subst h; simp [hi]
  · rw [decide_eq_false h]
    by_cases hk : i < k
    · simp [hk]
    · have : ¬ (i - k = 0) := by omega
      simp [this]
theorem low_get (c : W32) : ∀ (k i : Nat), i < 32 → (low c k).getLsbD i = (decide (i < k) && c.getLsbD i)
  | 0, i, _ => by simp [low]
  | k + 1, i, hi => by
    rw [low, BitVec.getLsbD_xor, low_get c k i hi]
    by_cases h : i = k
    · subst h
      rw [decide_eq_false (Nat.lt_irrefl i), decide_eq_true (Nat.lt_succ_self i), Bool.false_and, Bool.false_xor, Bool.true_and]
      split
      · rename_i hc; rw [getLsbD_bit _ _ hi, hc]; simp
      · rename_i hc
        have : c.getLsbD i = false := by simpa using hc
        rw [this]; simp
    · have h1 : decide (i < k + 1) = decide (i < k) := by
        by_cases hk : i < k
        · rw [decide_eq_true hk, decide_eq_true (by omega)]
        · rw [decide_eq_false hk, decide_eq_false (by omega)]
      rw [h1]
      split
      · rw [getLsbD_bit _ _ hi, decide_eq_false h, Bool.xor_false]
      · simp
theorem part_all {f : W32 → W32} (h : Lin f) (c : W32) : part f c 32 = f c := by
  rw [part_low h]
  congr 1
  apply BitVec.eq_of_getLsbD_eq
  intro i hi
  rw [low_get c 32 i hi, decide_eq_true hi, Bool.true_and]
theorem T_bit : T (bit 0) = poly ∧ ∀ i, i < 31 → T (bit (i + 1)) = bit i := by
  refine ⟨by decide, fun i hi => ?_⟩
  have h0 : (bit (i + 1)).getLsbD 0 = false := by rw [getLsbD_bit _ _ (by omega)]; simp
  unfold T
  rw [h0]
  simp only [Bool.false_eq_true, if_false, BitVec.xor_zero]
  apply BitVec.eq_of_getLsbD_eq
  intro j hj
  rw [BitVec.getLsbD_ushiftRight, getLsbD_bit _ _ hj]
  by_cases h31 : 1 + j < 32
  · rw [getLsbD_bit _ _ h31]
    by_cases h : j = i
    · subst h; simp [Nat.add_comm]
    · rw [decide_eq_false h, decide_eq_false (by omega)]
  · rw [BitVec.getLsbD_of_ge _ _ (by omega), decide_eq_false (by omega)]
theorem Tn_Tn (n : Nat) (c : W32) : Tn n (Tn n c) = Tn (n + n) c := (Tn_add n n c).symm
theorem part_yes {f : W32 → W32} {c : W32} {k : Nat} (h : c.getLsbD k = true) : part f c (k + 1) = part f c k ^^^ f (bit k) := by rw [part, if_pos h]
theorem part_no {f : W32 → W32} {c : W32} {k : Nat} (h : c.getLsbD k = false) : part f c (k + 1) = part f c k := by rw [part, h]; simp
theorem shift_odd (e k : Nat) (c : W32) (h : k % 2 = 1) : Tn ((e + e) * (k / 2)) (Tn e c) = Tn (e * k) c := by
  rw [← Tn_add]
  congr 1
  have hk : k = 2 * (k / 2) + 1 := by omega
  conv => rhs; rw [hk]
  rw [Nat.mul_add, ← Nat.mul_assoc, Nat.mul_comm e 2, Nat.two_mul]; omega
theorem shift_even (e k : Nat) (c : W32) (h : k % 2 = 0) : Tn ((e + e) * (k / 2)) c = Tn (e * k) c := by
  congr 1
  have hk : k = 2 * (k / 2) := by omega
  conv => rhs; rw [hk]
  rw [← Nat.mul_assoc, Nat.mul_comm e 2, Nat.two_mul]
theorem Tn_comm (m n : Nat) (c : W32) : Tn m (Tn n c) = Tn n (Tn m c) := by rw [← Tn_add, ← Tn_add, Nat.add_comm]
/-- so many bytes of 0 -/
theorem reg_zeros : ∀ (n : Nat) (c : W32), reg c (List.replicate n 0) = Tn (8 * n) c
  | 0, c => rfl
  | n + 1, c => by
    rw [List.replicate_succ]
    show reg (stepB c 0) (List.replicate n 0) = _
    rw [reg_zeros n, show stepB c 0 = Tn 8 c by unfold stepB; simp, ← Tn_add, Nat.mul_add, Nat.add_comm]
theorem reg_xor : ∀ (l : List UInt8) (a b : W32), reg (a ^^^ b) l = reg a l ^^^ Tn (8 * l.length) b
  | [], a, b => by simp [reg, Tn]
  | x :: l, a, b => by
    show reg (stepB (a ^^^ b) x) l = reg (stepB a x) l ^^^ _
    have : stepB (a ^^^ b) x = stepB a x ^^^ Tn 8 b := by
      unfold stepB
      rw [BitVec.xor_assoc, BitVec.xor_comm b, ← BitVec.xor_assoc, Tn_xor]
    rw [this, reg_xor l, ← Tn_add, List.length_cons, Nat.mul_add, Nat.add_comm]
/-- two texts, one behind the other -/
theorem sum_join (a b : List UInt8) : Tn (8 * b.length) (sum a) ^^^ sum b = sum (a ++ b) := by
  unfold sum more
  rw [reg_append]
  have h : reg (~~~0#32) a = ~~~0#32 ^^^ ~~~(reg (~~~0#32) a) := by
    apply BitVec.eq_of_getLsbD_eq
    intro i hi
    simp only [BitVec.getLsbD_xor, BitVec.getLsbD_not, hi, decide_true, Bool.true_and]
    simp
  conv => rhs; rw [h, reg_xor]
  apply BitVec.eq_of_getLsbD_eq
  intro i hi
  simp only [BitVec.getLsbD_xor, BitVec.getLsbD_not, hi, decide_true, Bool.true_and]
  cases (reg (~~~0#32) b).getLsbD i <;> cases (Tn (8 * b.length) (~~~reg (~~~0#32) a)).getLsbD i <;> rfl

end Go.Ox.Crc
