/-
  The plain law of layer 2: sums of 32 bits as linear maps of bits.
-/
namespace Go.Ox.Crc

abbrev W32 := BitVec 32
def poly : W32 := 0xedb88320#32

/-- one bit of zero -/
def T (c : W32) : W32 := (c >>> 1) ^^^ (if c.getLsbD 0 then poly else 0#32)
def Tn : Nat → W32 → W32
  | 0, c => c
  | n + 1, c => Tn n (T c)

theorem xor_pp (x y p : W32) : (x ^^^ p) ^^^ (y ^^^ p) = x ^^^ y := by
  rw [BitVec.xor_comm y p, BitVec.xor_assoc, ← BitVec.xor_assoc p p y, BitVec.xor_self, BitVec.zero_xor]
theorem T_xor (a b : W32) : T (a ^^^ b) = T a ^^^ T b := by
  unfold T
  rw [BitVec.ushiftRight_xor_distrib, BitVec.getLsbD_xor]
  cases a.getLsbD 0 <;> cases b.getLsbD 0 <;> simp only [Bool.false_xor, Bool.true_xor, Bool.not_true, Bool.not_false, if_true, Bool.false_eq_true, if_false, BitVec.xor_zero]
  · rw [BitVec.xor_assoc]
  · rw [BitVec.xor_assoc, BitVec.xor_assoc, BitVec.xor_comm poly]
  · rw [xor_pp]
theorem Tn_xor : ∀ (n : Nat) (a b : W32), Tn n (a ^^^ b) = Tn n a ^^^ Tn n b
  | 0, _, _ => rfl
  | n + 1, a, b => by simp only [Tn, T_xor, Tn_xor n]
theorem T_zero : T 0#32 = 0#32 := by decide
theorem Tn_zero : ∀ n, Tn n 0#32 = 0#32
  | 0 => rfl
  | n + 1 => by simp only [Tn, T_zero, Tn_zero n]
theorem Tn_add : ∀ (m n : Nat) (c : W32), Tn (m + n) c = Tn n (Tn m c)
  | 0, n, c => by simp [Tn]
  | m + 1, n, c => by rw [Nat.add_right_comm]; exact Tn_add m n (T c)
theorem Tn_succ (n : Nat) (c : W32) : Tn (n + 1) c = T (Tn n c) := Tn_add n 1 c

/-- the way back -/
def U (c : W32) : W32 := if c.getLsbD 31 then ((c ^^^ poly) <<< 1) ||| 1#32 else c <<< 1
theorem U_T (c : W32) : U (T c) = c := by
  have h31 : (c >>> 1).getLsbD 31 = false := by rw [BitVec.getLsbD_ushiftRight]; exact BitVec.getLsbD_of_ge _ _ (by omega)
  have hp : poly.getLsbD 31 = true := by decide
  unfold U T
  cases h : c.getLsbD 0 with
  | false =>
    simp only [Bool.false_eq_true, if_false, BitVec.xor_zero, h31]
    apply BitVec.eq_of_getLsbD_eq
    intro i hi
    simp only [BitVec.getLsbD_shiftLeft, BitVec.getLsbD_ushiftRight]
    cases i with
    | zero => rw [h]; rfl
    | succ i =>
      have : 1 + (i + 1 - 1) = i + 1 := by omega
      simp only [this, hi, decide_true, Bool.true_and, show ¬ (i + 1 < 1) by omega, decide_false, Bool.not_false]
  | true =>
    simp only [if_true, BitVec.getLsbD_xor, h31, hp, Bool.false_xor]
    rw [BitVec.xor_assoc, BitVec.xor_self, BitVec.xor_zero]
    apply BitVec.eq_of_getLsbD_eq
    intro i hi
    simp only [BitVec.getLsbD_or, BitVec.getLsbD_shiftLeft, BitVec.getLsbD_ushiftRight]
    cases i with
    | zero => rw [h, decide_eq_true (show 0 < 1 by omega)]; simp only [Bool.not_true, Bool.and_false, Bool.false_and, Bool.false_or]; decide
    | succ i =>
      have : 1 + (i + 1 - 1) = i + 1 := by omega
      have h1 : (1#32).getLsbD (i + 1) = false := by
        rw [BitVec.getLsbD_one]; simp
      simp only [this, hi, decide_true, Bool.true_and, show ¬ (i + 1 < 1) by omega, decide_false, Bool.not_false, h1, Bool.or_false]
theorem T_inj {a b : W32} (h : T a = T b) : a = b := by rw [← U_T a, h, U_T]
theorem Tn_inj : ∀ (n : Nat) {a b : W32}, Tn n a = Tn n b → a = b
  | 0, _, _, h => h
  | n + 1, _, _, h => T_inj (Tn_inj n h)

/-- the low bits go out one by one -/
theorem Tn_high : ∀ (n : Nat) (c : W32), (∀ i, i < n → c.getLsbD i = false) → Tn n c = c >>> n
  | 0, c, _ => by simp [Tn]
  | n + 1, c, h => by
    have h0 : T c = c >>> 1 := by
      unfold T
      rw [h 0 (by omega)]
      simp
    rw [Tn, h0, Tn_high n (c >>> 1) (fun i hi => by rw [BitVec.getLsbD_ushiftRight]; exact h (1 + i) (by omega)), Nat.add_comm n 1, BitVec.shiftRight_add]

/-- half a byte at once -/
theorem half (c : W32) : Tn 4 (c &&& 15#32) ^^^ (c >>> 4) = Tn 4 c := by
  have hs : c = (c &&& 15#32) ^^^ (c &&& ~~~15#32) := by
    apply BitVec.eq_of_getLsbD_eq
    intro i hi
    simp only [BitVec.getLsbD_xor, BitVec.getLsbD_and, BitVec.getLsbD_not, hi, decide_true, Bool.true_and]
    cases c.getLsbD i <;> cases (15#32).getLsbD i <;> rfl
  have h15 : ∀ i, i < 4 → (15#32).getLsbD i = true := by decide
  have hh : Tn 4 (c &&& ~~~15#32) = c >>> 4 := by
    rw [Tn_high 4]
    · apply BitVec.eq_of_getLsbD_eq
      intro i hi
      rw [BitVec.getLsbD_ushiftRight, BitVec.getLsbD_ushiftRight, BitVec.getLsbD_and, BitVec.getLsbD_not]
      by_cases h4 : 4 + i < 32
      · have : (15#32).getLsbD (4 + i) = false := by
          have : ∀ k, k < 28 → (15#32).getLsbD (4 + k) = false := by decide
          exact this i (by omega)
        rw [this, decide_eq_true h4, Bool.not_false, Bool.and_true, Bool.and_true]
      · rw [BitVec.getLsbD_of_ge c _ (by omega), Bool.false_and]
    · intro i hi
      rw [BitVec.getLsbD_and, BitVec.getLsbD_not, h15 i hi, Bool.not_true, Bool.and_false, Bool.and_false]
  conv => rhs; rw [hs, Tn_xor]
  rw [hh]

/-- one byte -/
def stepB (c : W32) (x : UInt8) : W32 := Tn 8 (c ^^^ x.toBitVec.setWidth 32)
def reg (c : W32) (l : List UInt8) : W32 := l.foldl stepB c
def more (s : W32) (l : List UInt8) : W32 := ~~~(reg (~~~s) l)
def sum (l : List UInt8) : W32 := more 0#32 l

theorem reg_append (c : W32) (a b : List UInt8) : reg c (a ++ b) = reg (reg c a) b := by simp [reg]
theorem reg_snoc (c : W32) (a : List UInt8) (x : UInt8) : reg c (a ++ [x]) = stepB (reg c a) x := by simp [reg]
theorem more_append (s : W32) (a b : List UInt8) : more s (a ++ b) = more (more s a) b := by simp [more, reg_append]

theorem stepB_halves (r : W32) (x : UInt8) :
    Tn 4 ((Tn 4 ((r ^^^ x.toBitVec.setWidth 32) &&& 15#32) ^^^ (r ^^^ x.toBitVec.setWidth 32) >>> 4) &&& 15#32) ^^^
      (Tn 4 ((r ^^^ x.toBitVec.setWidth 32) &&& 15#32) ^^^ (r ^^^ x.toBitVec.setWidth 32) >>> 4) >>> 4 = stepB r x := by
  rw [half, half, ← Tn_add]; rfl

/-! ### matrices -/
def Lin (f : W32 → W32) : Prop := ∀ a b, f (a ^^^ b) = f a ^^^ f b
theorem Lin.zero {f : W32 → W32} (h : Lin f) : f 0#32 = 0#32 := by
  have := h 0#32 0#32
  rw [BitVec.xor_self, BitVec.xor_self] at this
  exact this
theorem lin_Tn (n : Nat) : Lin (Tn n) := Tn_xor n
def bit (i : Nat) : W32 := 1#32 <<< i
/-- what the first k bits become -/
def part (f : W32 → W32) (c : W32) : Nat → W32
  | 0 => 0#32
  | k + 1 => part f c k ^^^ (if c.getLsbD k then f (bit k) else 0#32)
def low (c : W32) : Nat → W32
  | 0 => 0#32
  | k + 1 => low c k ^^^ (if c.getLsbD k then bit k else 0#32)
theorem part_low {f : W32 → W32} (h : Lin f) (c : W32) : ∀ k, part f c k = f (low c k)
  | 0 => h.zero.symm
  | k + 1 => by
    rw [part, low, h, part_low h c k]
    split
    · rfl
    · rw [h.zero]
theorem getLsbD_bit (k i : Nat) (hi : i < 32) : (bit k).getLsbD i = decide (i = k) := by
  unfold bit
  rw [BitVec.getLsbD_shiftLeft, BitVec.getLsbD_one]
  by_cases h : i = k
  · subst h; simp [hi]
  · rw [decide_eq_false h]
    by_cases hk : i < k
    · simp [hk]
    · have : ¬ (i - k = 0) := by omega
      simp [this]
theorem low_get (c : W32) : ∀ (k i : Nat), i < 32 → (low c k).getLsbD i = (decide (i < k) && c.getLsbD i)
  | 0, i, _ => by simp [low]
  | k + 1, i, hi => by
    rw [low, BitVec.getLsbD_xor, low_get c k i hi]
    by_cases h : i = k
    · subst h
      rw [decide_eq_false (Nat.lt_irrefl i), decide_eq_true (Nat.lt_succ_self i), Bool.false_and, Bool.false_xor, Bool.true_and]
      split
      · rename_i hc; rw [getLsbD_bit _ _ hi, hc]; simp
      · rename_i hc
        have : c.getLsbD i = false := by simpa using hc
        rw [this]; simp
    · have h1 : decide (i < k + 1) = decide (i < k) := by
        by_cases hk : i < k
        · rw [decide_eq_true hk, decide_eq_true (by omega)]
        · rw [decide_eq_false hk, decide_eq_false (by omega)]
      rw [h1]
      split
      · rw [getLsbD_bit _ _ hi, decide_eq_false h, Bool.xor_false]
      · simp
theorem part_all {f : W32 → W32} (h : Lin f) (c : W32) : part f c 32 = f c := by
  rw [part_low h]
  congr 1
  apply BitVec.eq_of_getLsbD_eq
  intro i hi
  rw [low_get c 32 i hi, decide_eq_true hi, Bool.true_and]
theorem T_bit : T (bit 0) = poly ∧ ∀ i, i < 31 → T (bit (i + 1)) = bit i := by
  refine ⟨by decide, fun i hi => ?_⟩
  have h0 : (bit (i + 1)).getLsbD 0 = false := by rw [getLsbD_bit _ _ (by omega)]; simp
  unfold T
  rw [h0]
  simp only [Bool.false_eq_true, if_false, BitVec.xor_zero]
  apply BitVec.eq_of_getLsbD_eq
  intro j hj
  rw [BitVec.getLsbD_ushiftRight, getLsbD_bit _ _ hj]
  by_cases h31 : 1 + j < 32
  · rw [getLsbD_bit _ _ h31]
    by_cases h : j = i
    · subst h; simp [Nat.add_comm]
    · rw [decide_eq_false h, decide_eq_false (by omega)]
  · rw [BitVec.getLsbD_of_ge _ _ (by omega), decide_eq_false (by omega)]
theorem Tn_Tn (n : Nat) (c : W32) : Tn n (Tn n c) = Tn (n + n) c := (Tn_add n n c).symm
theorem part_yes {f : W32 → W32} {c : W32} {k : Nat} (h : c.getLsbD k = true) : part f c (k + 1) = part f c k ^^^ f (bit k) := by rw [part, if_pos h]
theorem part_no {f : W32 → W32} {c : W32} {k : Nat} (h : c.getLsbD k = false) : part f c (k + 1) = part f c k := by rw [part, h]; simp
theorem shift_odd (e k : Nat) (c : W32) (h : k % 2 = 1) : Tn ((e + e) * (k / 2)) (Tn e c) = Tn (e * k) c := by
  rw [← Tn_add]
  congr 1
  have hk : k = 2 * (k / 2) + 1 := by omega
  conv => rhs; rw [hk]
  rw [Nat.mul_add, ← Nat.mul_assoc, Nat.mul_comm e 2, Nat.two_mul]; omega
theorem shift_even (e k : Nat) (c : W32) (h : k % 2 = 0) : Tn ((e + e) * (k / 2)) c = Tn (e * k) c := by
  congr 1
  have hk : k = 2 * (k / 2) := by omega
  conv => rhs; rw [hk]
  rw [← Nat.mul_assoc, Nat.mul_comm e 2, Nat.two_mul]
theorem Tn_comm (m n : Nat) (c : W32) : Tn m (Tn n c) = Tn n (Tn m c) := by rw [← Tn_add, ← Tn_add, Nat.add_comm]
/-- so many bytes of 0 -/
theorem reg_zeros : ∀ (n : Nat) (c : W32), reg c (List.replicate n 0) = Tn (8 * n) c
  | 0, c => rfl
  | n + 1, c => by
    rw [List.replicate_succ]
    show reg (stepB c 0) (List.replicate n 0) = _
    rw [reg_zeros n, show stepB c 0 = Tn 8 c by unfold stepB; simp, ← Tn_add, Nat.mul_add, Nat.add_comm]
theorem reg_xor : ∀ (l : List UInt8) (a b : W32), reg (a ^^^ b) l = reg a l ^^^ Tn (8 * l.length) b
  | [], a, b => by simp [reg, Tn]
  | x :: l, a, b => by
    show reg (stepB (a ^^^ b) x) l = reg (stepB a x) l ^^^ _
    have : stepB (a ^^^ b) x = stepB a x ^^^ Tn 8 b := by
      unfold stepB
      rw [BitVec.xor_assoc, BitVec.xor_comm b, ← BitVec.xor_assoc, Tn_xor]
    rw [this, reg_xor l, ← Tn_add, List.length_cons, Nat.mul_add, Nat.add_comm]
/-- two texts, one behind the other -/
theorem sum_join (a b : List UInt8) : Tn (8 * b.length) (sum a) ^^^ sum b = sum (a ++ b) := by
  unfold sum more
  rw [reg_append]
  have h : reg (~~~0#32) a = ~~~0#32 ^^^ ~~~(reg (~~~0#32) a) := by
    apply BitVec.eq_of_getLsbD_eq
    intro i hi
    simp only [BitVec.getLsbD_xor, BitVec.getLsbD_not, hi, decide_true, Bool.true_and]
    simp
  conv => rhs; rw [h, reg_xor]
  apply BitVec.eq_of_getLsbD_eq
  intro i hi
  simp only [BitVec.getLsbD_xor, BitVec.getLsbD_not, hi, decide_true, Bool.true_and]
  cases (reg (~~~0#32) b).getLsbD i <;> cases (Tn (8 * b.length) (~~~reg (~~~0#32) a)).getLsbD i <;> rfl
theorem zeros_zeros (s : W32) (n m : Nat) : ~~~(Tn (8 * m) (~~~(~~~(Tn (8 * n) (~~~s))))) = ~~~(Tn (8 * (n + m)) (~~~s)) := by
  rw [BitVec.not_not, ← Tn_add, Nat.mul_add]
theorem more_more (l : List UInt8) {at_ q : Nat} (s : W32) : more (more s (l.take at_)) ((l.take (at_ + q)).drop at_) = more s (l.take (at_ + q)) := by
  rw [← more_append]
  congr 1
  have := List.take_append_drop at_ (l.take (at_ + q))
  rw [List.take_take, Nat.min_eq_left (by omega)] at this
  exact this
theorem more_rest (l : List UInt8) (at_ : Nat) (s : W32) : more (more s (l.take at_)) (l.drop at_) = more s l := by
  rw [← more_append, List.take_append_drop]
def xorL (a b : List UInt8) : List UInt8 := List.zipWith (fun x y => x ^^^ y) a b
theorem stepB_xor (a b : W32) (x y : UInt8) : stepB (a ^^^ b) (x ^^^ y) = stepB a x ^^^ stepB b y := by
  unfold stepB
  rw [← Tn_xor]
  congr 1
  have h : (x ^^^ y).toBitVec.setWidth 32 = x.toBitVec.setWidth 32 ^^^ y.toBitVec.setWidth 32 := by
    rw [UInt8.toBitVec_xor, BitVec.setWidth_xor]
  rw [h]
  simp only [BitVec.xor_assoc]
  congr 1
  rw [← BitVec.xor_assoc, ← BitVec.xor_assoc, BitVec.xor_comm b]
theorem reg_xorL : ∀ (a b : List UInt8) (c d : W32), a.length = b.length → reg (c ^^^ d) (xorL a b) = reg c a ^^^ reg d b
  | [], [], c, d, _ => rfl
  | x :: a, y :: b, c, d, h => by
    show reg (stepB (c ^^^ d) (x ^^^ y)) (xorL a b) = _
    rw [stepB_xor, reg_xorL a b _ _ (by simpa using h)]
    rfl
  | [], _ :: _, _, _, h => by simp at h
  | _ :: _, [], _, _, h => by simp at h
theorem xorL_len (a b : List UInt8) (h : a.length = b.length) : (xorL a b).length = a.length := by simp [xorL, h]
theorem sum_xor3 (a b c : List UInt8) (h1 : a.length = b.length) (h2 : a.length = c.length) : (sum a ^^^ sum b) ^^^ sum c = sum (xorL (xorL a b) c) := by
  unfold sum more
  have h : ~~~0#32 = ((~~~0#32 ^^^ ~~~0#32) ^^^ ~~~0#32 : W32) := by decide
  conv => rhs; rw [h]
  rw [reg_xorL _ _ _ _ (by rw [xorL_len a b h1, h2]), reg_xorL _ _ _ _ h1]
  generalize reg (~~~0#32) a = x
  generalize reg (~~~0#32) b = y
  generalize reg (~~~0#32) c = z
  apply BitVec.eq_of_getLsbD_eq
  intro i hi
  simp only [BitVec.getLsbD_xor, BitVec.getLsbD_not, hi, decide_true, Bool.true_and]
  cases x.getLsbD i <;> cases y.getLsbD i <;> cases z.getLsbD i <;> rfl
theorem take_set (l r : List UInt8) (k : Nat) (h : l.length = r.length) (hk : k < l.length) : (r.take k ++ List.replicate (l.length - k) 0).set k (r[k]'(by omega)) = r.take (k + 1) ++ List.replicate (l.length - (k + 1)) 0 := by
  rw [List.set_append, if_neg (by rw [List.length_take]; omega), List.length_take, Nat.min_eq_left (by omega), Nat.sub_self]
  rw [show l.length - k = (l.length - (k + 1)) + 1 by omega, List.replicate_succ, List.set_cons_zero, List.take_succ_eq_append_getElem (by omega), List.append_assoc]
  rfl
theorem xor3_ex (a b c : List UInt8) (h1 : a.length = b.length) (h2 : a.length = c.length) : ∃ X : List UInt8, a.length = X.length ∧ (sum a ^^^ sum b) ^^^ sum c = sum X ∧
    ∀ (k : Nat) (ha : k < a.length) (hb : k < b.length) (hc : k < c.length) (hx : k < X.length), X[k] = (a[k] ^^^ b[k]) ^^^ c[k] :=
  ⟨xorL (xorL a b) c, by rw [xorL_len _ _ (by rw [xorL_len _ _ h1, h2]), xorL_len _ _ h1], sum_xor3 a b c h1 h2, fun k _ _ _ _ => by simp [xorL]⟩

/-! ### bursts -/
theorem Tn_bit (k : Nat) (hk : k < 32) : Tn k (bit k) = 1#32 := by
  rw [Tn_high k _ (fun i hi => by rw [getLsbD_bit _ _ (by omega)]; exact decide_eq_false (by omega))]
  apply BitVec.eq_of_getLsbD_eq
  intro i hi
  rw [BitVec.getLsbD_ushiftRight, BitVec.getLsbD_one]
  by_cases h : k + i < 32
  · rw [getLsbD_bit _ _ h]
    by_cases h0 : i = 0
    · subst h0; simp
    · rw [decide_eq_false (by omega)]; simp [h0]
  · rw [BitVec.getLsbD_of_ge _ _ (by omega)]
    have : i ≠ 0 := by omega
    simp [this]
theorem Tn_bit_add (k m : Nat) (hk : k < 32) : Tn (k + m) (bit k) = Tn m 1#32 := by rw [Tn_add, Tn_bit k hk]
theorem byte_bit (j : Nat) (hj : j < 8) : (UInt8.ofNat (2 ^ j)).toBitVec.setWidth 32 = bit j := by
  have : ∀ j, j < 8 → (UInt8.ofNat (2 ^ j)).toBitVec.setWidth 32 = bit j := by decide
  exact this j hj
def flip1 (l : List UInt8) (p : Nat) : List UInt8 := l.set (p / 8) (l.getD (p / 8) 0 ^^^ UInt8.ofNat (2 ^ (p % 8)))
theorem flip1_len (l : List UInt8) (p : Nat) : (flip1 l p).length = l.length := by simp [flip1]
theorem stepB_xor1 (a : W32) (x y : UInt8) : stepB a (x ^^^ y) = stepB a x ^^^ Tn 8 (y.toBitVec.setWidth 32) := by
  unfold stepB
  rw [← Tn_xor]
  congr 1
  rw [UInt8.toBitVec_xor, BitVec.setWidth_xor, BitVec.xor_assoc]
theorem reg_flip1 : ∀ (l : List UInt8) (c : W32) (p : Nat), p < 8 * l.length → reg c (flip1 l p) = reg c l ^^^ Tn (8 * l.length - p) 1#32
  | [], _, p, h => by simp at h
  | x :: l, c, p, h => by
    by_cases h8 : p < 8
    · have h0 : p / 8 = 0 := by omega
      have h1 : p % 8 = p := by omega
      unfold flip1
      rw [h0, h1]
      show reg (stepB c (x ^^^ UInt8.ofNat (2 ^ p))) l = reg (stepB c x) l ^^^ _
      have hT := Tn_bit_add p (8 - p) (by omega)
      rw [show p + (8 - p) = 8 by omega] at hT
      rw [stepB_xor1, byte_bit p h8, reg_xor, hT, ← Tn_add]
      congr 2
      simp only [List.length_cons]; omega
    · have h0 : p / 8 = (p - 8) / 8 + 1 := by omega
      have h1 : p % 8 = (p - 8) % 8 := by omega
      have hf : flip1 (x :: l) p = x :: flip1 l (p - 8) := by
        unfold flip1
        rw [h0, h1]
        rfl
      rw [hf]
      show reg (stepB c x) (flip1 l (p - 8)) = reg (stepB c x) l ^^^ _
      rw [reg_flip1 l _ (p - 8) (by simp only [List.length_cons] at h; omega)]
      congr 2
      simp only [List.length_cons]; omega
/-- the text with the first k bits of 'turn' turned from bit p on -/
def flips (l : List UInt8) (p : Nat) (turn : W32) : Nat → List UInt8
  | 0 => l
  | k + 1 => if turn.getLsbD k then flip1 (flips l p turn k) (p + k) else flips l p turn k
theorem flips_len (l : List UInt8) (p : Nat) (turn : W32) : ∀ k, (flips l p turn k).length = l.length
  | 0 => rfl
  | k + 1 => by
    rw [flips]
    split
    · rw [flip1_len, flips_len l p turn k]
    · exact flips_len l p turn k
theorem reg_flips (l : List UInt8) (p : Nat) (turn c : W32) (h : p + 32 ≤ 8 * l.length) : ∀ k, k ≤ 32 → reg c (flips l p turn k) = reg c l ^^^ Tn (8 * l.length - p - 32) (part (Tn 32) turn k)
  | 0, _ => by rw [flips, part, Tn_zero, BitVec.xor_zero]
  | k + 1, hk => by
    rw [flips]
    cases hb : turn.getLsbD k with
    | true =>
      rw [if_pos rfl, part_yes hb, reg_flip1 _ _ _ (by rw [flips_len]; omega), reg_flips l p turn c h k (by omega), flips_len, Tn_xor, BitVec.xor_assoc]
      congr 2
      rw [← Tn_add, show 32 + (8 * l.length - p - 32) = k + (8 * l.length - (p + k)) by omega, Tn_bit_add k _ (by omega)]
    | false =>
      rw [if_neg (by simp), part_no hb, reg_flips l p turn c h k (by omega)]
theorem reg_burst (l : List UInt8) (p : Nat) (turn c : W32) (h : p + 32 ≤ 8 * l.length) (ht : turn ≠ 0#32) : reg c (flips l p turn 32) ≠ reg c l := by
  rw [reg_flips l p turn c h 32 (Nat.le_refl _), part_all (lin_Tn 32)]
  intro e
  have h1 : Tn (8 * l.length - p - 32) (Tn 32 turn) = 0#32 := by
    have := congrArg (fun x => reg c l ^^^ x) e
    simp only [← BitVec.xor_assoc, BitVec.xor_self, BitVec.zero_xor] at this
    exact this
  rw [← Tn_add] at h1
  exact ht (Tn_inj _ (h1.trans (Tn_zero _).symm))

/-! ### a sum behind its text -/
theorem low8 (v : W32) (k : Nat) (h : k ≤ 24) (x : UInt8) (hx : x.toNat = v.toNat / 2 ^ k % 256) (i : Nat) (hi : i < 32) : (x.toBitVec.setWidth 32 <<< k).getLsbD i = (decide (k ≤ i) && decide (i < k + 8) && v.getLsbD i) := by
  rw [BitVec.getLsbD_shiftLeft, BitVec.getLsbD_setWidth]
  have hb : x.toBitVec.getLsbD (i - k) = (decide (i - k < 8) && v.toNat.testBit (k + (i - k))) := by
    show x.toNat.testBit (i - k) = _
    rw [hx, show (256 : Nat) = 2 ^ 8 from rfl, Nat.testBit_mod_two_pow, Nat.testBit_div_two_pow, Nat.add_comm]
  rw [hb]
  have hv : v.getLsbD i = v.toNat.testBit i := rfl
  rw [hv]
  by_cases h1 : k ≤ i
  · have h2 : k + (i - k) = i := by omega
    have h3 : decide (i - k < 8) = decide (i < k + 8) := by
      by_cases h : i - k < 8
      · rw [decide_eq_true h, decide_eq_true (by omega)]
      · rw [decide_eq_false h, decide_eq_false (by omega)]
    rw [h2, h3, decide_eq_true hi, decide_eq_false (show ¬ i < k by omega), decide_eq_true h1, decide_eq_true (show i - k < 32 by omega)]
    simp
  · rw [decide_eq_true (show i < k by omega), decide_eq_false h1]
    simp
theorem four (v : W32) (b0 b1 b2 b3 : UInt8) (h0 : b0.toNat = v.toNat % 256) (h1 : b1.toNat = v.toNat / 256 % 256) (h2 : b2.toNat = v.toNat / 65536 % 256) (h3 : b3.toNat = v.toNat / 16777216) :
    v = ((b0.toBitVec.setWidth 32 ^^^ (b1.toBitVec.setWidth 32 <<< 8)) ^^^ (b2.toBitVec.setWidth 32 <<< 16)) ^^^ (b3.toBitVec.setWidth 32 <<< 24) := by
  apply BitVec.eq_of_getLsbD_eq
  intro i hi
  have hv := v.isLt
  have e0 := low8 v 0 (by omega) b0 (by rw [h0]; simp) i hi
  rw [BitVec.shiftLeft_zero] at e0
  rw [BitVec.getLsbD_xor, BitVec.getLsbD_xor, BitVec.getLsbD_xor, e0, low8 v 8 (by omega) b1 (by rw [h1]) i hi, low8 v 16 (by omega) b2 (by rw [h2]) i hi, low8 v 24 (by omega) b3 (by rw [h3]; omega) i hi]
  cases v.getLsbD i with
  | false => simp
  | true =>
    simp only [Bool.and_true]
    by_cases c1 : i < 8
    · simp [c1, show i < 16 by omega, show i < 24 by omega, show i < 32 by omega, show ¬ 8 ≤ i by omega, show ¬ 16 ≤ i by omega, show ¬ 24 ≤ i by omega]
    · by_cases c2 : i < 16
      · simp [c1, c2, show i < 24 by omega, show i < 32 by omega, show 8 ≤ i by omega, show ¬ 16 ≤ i by omega, show ¬ 24 ≤ i by omega]
      · by_cases c3 : i < 24
        · simp [c1, c2, c3, show i < 32 by omega, show 8 ≤ i by omega, show 16 ≤ i by omega, show ¬ 24 ≤ i by omega]
        · simp [c1, c2, c3, show i < 32 by omega, show 8 ≤ i by omega, show 16 ≤ i by omega, show 24 ≤ i by omega]
theorem Tn_shl (x : UInt8) (k : Nat) (hk : k ≤ 24) : Tn k (x.toBitVec.setWidth 32 <<< k) = x.toBitVec.setWidth 32 := by
  rw [Tn_high k _ (fun i hi => by rw [BitVec.getLsbD_shiftLeft, decide_eq_true hi]; simp)]
  apply BitVec.eq_of_getLsbD_eq
  intro i hi
  rw [BitVec.getLsbD_ushiftRight, BitVec.getLsbD_shiftLeft, decide_eq_false (show ¬ (k + i < k) by omega), Nat.add_sub_cancel_left, Bool.not_false, Bool.and_true]
  by_cases h : k + i < 32
  · rw [decide_eq_true h, Bool.true_and]
  · rw [decide_eq_false h, Bool.false_and]
    rw [BitVec.getLsbD_setWidth, BitVec.getLsbD_of_ge _ _ (by omega)]
    simp
theorem reg_four (r v : W32) (b0 b1 b2 b3 : UInt8) (h0 : b0.toNat = v.toNat % 256) (h1 : b1.toNat = v.toNat / 256 % 256) (h2 : b2.toNat = v.toNat / 65536 % 256) (h3 : b3.toNat = v.toNat / 16777216) :
    reg r [b0, b1, b2, b3] = Tn 32 (r ^^^ v) := by
  conv => rhs; rw [four v b0 b1 b2 b3 h0 h1 h2 h3]
  show stepB (stepB (stepB (stepB r b0) b1) b2) b3 = _
  unfold stepB
  rw [← BitVec.xor_assoc, ← BitVec.xor_assoc, ← BitVec.xor_assoc]
  have a1 : ∀ c, Tn 32 c = Tn 24 (Tn 8 c) := fun c => Tn_add 8 24 c
  have a2 : ∀ c, Tn 32 c = Tn 16 (Tn 16 c) := fun c => Tn_add 16 16 c
  have a3 : ∀ c, Tn 32 c = Tn 8 (Tn 24 c) := fun c => Tn_add 24 8 c
  have e1 : Tn 32 (b1.toBitVec.setWidth 32 <<< 8) = Tn 24 (b1.toBitVec.setWidth 32) := by
    rw [a1, Tn_shl b1 8 (by omega)]
  have e2 : Tn 32 (b2.toBitVec.setWidth 32 <<< 16) = Tn 16 (b2.toBitVec.setWidth 32) := by
    rw [a2, Tn_shl b2 16 (by omega)]
  have e3 : Tn 32 (b3.toBitVec.setWidth 32 <<< 24) = Tn 8 (b3.toBitVec.setWidth 32) := by
    rw [a3, Tn_shl b3 24 (by omega)]
  have c2 : ∀ c, Tn 8 (Tn 8 c) = Tn 16 c := fun c => (Tn_add 8 8 c).symm
  have c3 : ∀ c, Tn 8 (Tn 16 c) = Tn 24 c := fun c => (Tn_add 16 8 c).symm
  have c4 : ∀ c, Tn 8 (Tn 24 c) = Tn 32 c := fun c => (a3 c).symm
  simp only [Tn_xor, e1, e2, e3, c2, c3, c4]

end Go.Ox.Crc
