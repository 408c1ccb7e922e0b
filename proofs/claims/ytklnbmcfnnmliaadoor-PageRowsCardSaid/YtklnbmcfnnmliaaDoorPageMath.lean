/-
  Pages in plain words: what a page's bytes are, what bytes are as a page, rows of pages.
-/
import Derived.Test.YtklnbmcfnnmliaaDoorCrc
import Derived.Test.YtklnbmcfnnmliaaDoorNumMath
import Derived.Test.YtklnbmcfnnmliaaDoorNumRdMath
namespace Go.Proofs.YtklnbmcfnnmliaaDoor
open Go.RowKit Go.Ox

theorem digits_val : ∀ (l : List UInt8), Num.digits (Num.val l) l.length = l := by
  intro l
  induction hn : l.length generalizing l with
  | zero => rw [List.eq_nil_of_length_eq_zero hn, Num.digits]
  | succ n ih =>
    obtain ⟨r, c, rfl⟩ : ∃ r c, l = r ++ [c] := ⟨l.dropLast, l.getLast (by intro h; subst h; simp at hn), (List.dropLast_concat_getLast _).symm⟩
    have hr : r.length = n := by simp at hn; exact hn
    have hc := c.toNat_lt
    rw [Num.digits, Num.val_snoc, show (Num.val r * 256 + c.toNat) / 256 = Num.val r by omega, show (Num.val r * 256 + c.toNat) % 256 = c.toNat by omega, ih r hr, UInt8.ofNat_toNat]

/-- may a tag be? -/
def TagMay (n : Int) : Prop := 1 ≤ n ∧ n ≤ 4611686018427387903
def pageT (n : Nat) : List UInt8 := Num.digits n 8
def pageHead (n : Nat) (b : List UInt8) : List UInt8 := pageT n ++ UInt8.ofNat b.length :: (b ++ List.replicate (43 - b.length) 0)
def pageP (n : Nat) (b : List UInt8) : List UInt8 := sealed (pageHead n b) ++ pageT n
theorem pageT_len (n : Nat) : (pageT n).length = 8 := Num.digits_len 8 n
theorem pageHead_len (n : Nat) {b : List UInt8} (h : b.length ≤ 43) : (pageHead n b).length = 52 := by
  simp [pageHead, pageT_len]; omega
theorem sealed_len (l : List UInt8) : (sealed l).length = l.length + 4 := by simp [sealed, tailL]
theorem pageP_len (n : Nat) {b : List UInt8} (h : b.length ≤ 43) : (pageP n b).length = 64 := by
  simp [pageP, sealed_len, pageHead_len n h, pageT_len]
theorem pageT_val {n : Nat} (h : n ≤ 4611686018427387903) : Num.val (pageT n) = n := by
  unfold pageT; rw [Num.val_digits]; exact Nat.mod_eq_of_lt (by omega)
theorem pageT_inj {n m : Nat} (hn : n ≤ 4611686018427387903) (hm : m ≤ 4611686018427387903) (h : pageT n = pageT m) : n = m := by
  rw [← pageT_val hn, h, pageT_val hm]
theorem pageP_shape (n : Nat) (b : List UInt8) : pageP n b = pageT n ++ (UInt8.ofNat b.length :: (b ++ (List.replicate (43 - b.length) 0 ++ (tailL (Crc.sum (pageHead n b)) ++ pageT n)))) := by
  simp only [pageP, sealed]
  generalize tailL (Crc.sum (pageHead n b)) = x
  rw [pageHead]
  simp
theorem pageP_first (n : Nat) (b : List UInt8) : (pageP n b).take 8 = pageT n := by
  rw [pageP_shape, List.take_left' (pageT_len n)]
theorem pageP_last (n : Nat) {b : List UInt8} (h : b.length ≤ 43) : (pageP n b).drop 56 = pageT n := by
  unfold pageP
  rw [List.drop_left' (by rw [sealed_len, pageHead_len n h])]
theorem pageP_at8 (n : Nat) (b : List UInt8) : (pageP n b).getD 8 0 = UInt8.ofNat b.length := by
  rw [pageP_shape, List.getD_eq_getElem?_getD, List.getElem?_append_right (by rw [pageT_len]; omega), pageT_len]
  rfl
theorem pageP_bytes (n : Nat) (b : List UInt8) : ((pageP n b).drop 9).take b.length = b := by
  rw [pageP_shape]
  rw [show (9 : Nat) = (pageT n).length + 1 by rw [pageT_len], List.drop_append, List.drop_of_length_le (by omega), List.nil_append, Nat.add_sub_cancel_left, List.drop_one, List.tail_cons, List.take_left']
  rfl

/-- with which a sector begins and ends -/
def tagL (s : List UInt8) : Option Nat :=
  if s.length = 64 ∧ s.take 8 = s.drop 56 ∧ 1 ≤ Num.val (s.take 8) ∧ Num.val (s.take 8) ≤ 4611686018427387903 then some (Num.val (s.take 8)) else none
/-- a page's error and bytes -/
def getL (n : Nat) (s : List UInt8) : Int × List UInt8 :=
  if tagL s ≠ some n then (60, [])
  else if 43 < (s.getD 8 0).toNat then (20, [])
  else if pageP n ((s.drop 9).take (s.getD 8 0).toNat) ≠ s then (20, []) else (0, (s.drop 9).take (s.getD 8 0).toNat)

theorem tagL_pageP {n : Nat} {b : List UInt8} (hn : TagMay n) (hb : b.length ≤ 43) : tagL (pageP n b) = some n := by
  obtain ⟨h1, h2⟩ := hn
  unfold tagL
  rw [pageP_first, pageP_last n hb, pageT_val (by omega), if_pos ⟨pageP_len n hb, rfl, by omega, by omega⟩]
theorem ofNat_len {b : List UInt8} (hb : b.length ≤ 43) : (UInt8.ofNat b.length).toNat = b.length := UInt8.toNat_ofNat_of_lt' (by show _ < 256; omega)
theorem getL_pageP {n : Nat} {b : List UInt8} (hn : TagMay n) (hb : b.length ≤ 43) : getL n (pageP n b) = (0, b) := by
  unfold getL
  rw [tagL_pageP hn hb, if_neg (by simp), pageP_at8, ofNat_len hb, if_neg (by omega), pageP_bytes, if_neg (by simp)]
theorem getL_other {n m : Nat} {b : List UInt8} (hn : TagMay n) (hm : n ≠ m) (hb : b.length ≤ 43) : getL m (pageP n b) = (60, []) := by
  unfold getL
  rw [tagL_pageP hn hb, if_pos (by simpa using hm)]
theorem getL_err (n : Nat) (s : List UInt8) : (getL n s).1 = 0 ∨ (getL n s).1 = 20 ∨ (getL n s).1 = 60 := by
  unfold getL; split <;> (try split) <;> (try split) <;> simp
theorem getL_len (n : Nat) (s : List UInt8) : (getL n s).2.length ≤ 43 := by
  unfold getL
  generalize (s.getD 8 0).toNat = c
  split <;> (try split) <;> (try split) <;> simp <;> omega
/-- what is a page is one that was put -/
theorem getL_is {n : Nat} {s : List UInt8} (h : (getL n s).1 = 0) : ∃ b : List UInt8, b.length ≤ 43 ∧ s = pageP n b := by
  unfold getL at h
  generalize (s.getD 8 0).toNat = c at h
  split at h
  · simp at h
  · split at h
    · simp at h
    · split at h
      · simp at h
      · rename_i h1 h2 h3
        refine ⟨_, ?_, (Classical.not_not.1 h3).symm⟩
        simp; omega

theorem torn_new {m n k : Nat} {a b : List UInt8} (hm : TagMay m) (hn : TagMay n) (ha : a.length ≤ 43) (hb : b.length ≤ 43) (hne : m ≠ n) (hk : k ≤ 64) :
    ((getL n ((pageP n b).take k ++ (pageP m a).drop k)).1 = 0) ↔ (pageP n b).take k ++ (pageP m a).drop k = pageP n b := by
  constructor
  · intro h
    obtain ⟨c, hc, he⟩ := getL_is h
    have hl : ((pageP n b).take k).length = k := by rw [List.length_take, pageP_len n hb]; omega
    have h56 : ((pageP n b).take k ++ (pageP m a).drop k).drop 56 = pageT n := by rw [he, pageP_last n hc]
    by_cases hk2 : k ≤ 56
    · exfalso
      rw [List.drop_append, hl, List.drop_drop, show k + (56 - k) = 56 by omega, pageP_last m ha, List.drop_of_length_le (by rw [hl]; exact hk2), List.nil_append] at h56
      exact hne (pageT_inj (by have := hm.2; omega) (by have := hn.2; omega) h56)
    · rw [← List.take_append_drop 56 ((pageP n b).take k ++ (pageP m a).drop k), h56]
      conv => rhs; rw [← List.take_append_drop 56 (pageP n b), pageP_last n hb]
      congr 1
      rw [List.take_append_of_le_length (by rw [hl]; omega), List.take_take, Nat.min_eq_left (by omega)]
  · intro h
    rw [h, getL_pageP hn hb]
theorem torn_old {m n k : Nat} {a b : List UInt8} (hm : TagMay m) (hn : TagMay n) (ha : a.length ≤ 43) (hb : b.length ≤ 43) (hne : m ≠ n) (hk : k ≤ 64) :
    ((getL m ((pageP n b).take k ++ (pageP m a).drop k)).1 = 0) ↔ (pageP n b).take k ++ (pageP m a).drop k = pageP m a := by
  constructor
  · intro h
    obtain ⟨c, hc, he⟩ := getL_is h
    have hl : ((pageP n b).take k).length = k := by rw [List.length_take, pageP_len n hb]; omega
    have h8 : ((pageP n b).take k ++ (pageP m a).drop k).take 8 = pageT m := by rw [he, pageP_first]
    by_cases hk2 : 8 ≤ k
    · exfalso
      rw [List.take_append_of_le_length (by rw [hl]; omega), List.take_take, Nat.min_eq_left hk2, pageP_first] at h8
      exact hne (pageT_inj (by have := hn.2; omega) (by have := hm.2; omega) h8).symm
    · rw [← List.take_append_drop 8 ((pageP n b).take k ++ (pageP m a).drop k), h8]
      conv => rhs; rw [← List.take_append_drop 8 (pageP m a), pageP_first]
      congr 1
      rw [List.drop_append, hl, List.drop_drop, show k + (8 - k) = 8 by omega, List.drop_of_length_le (by rw [hl]; omega), List.nil_append]
  · intro h
    rw [h, getL_pageP hm ha]

theorem reg_sealedP (x : List UInt8) : Crc.reg (~~~0#32) (sealed x) = Crc.Tn 32 (BitVec.allOnes 32) := by
  unfold sealed tailL
  rw [Crc.reg_append, Crc.reg_four _ (Crc.sum x)]
  · congr 1
    unfold Crc.sum Crc.more
    generalize Crc.reg (~~~0#32) x = r
    apply BitVec.eq_of_getLsbD_eq
    intro i hi
    simp only [BitVec.getLsbD_xor, BitVec.getLsbD_not, BitVec.getLsbD_allOnes, hi, decide_true, Bool.true_and]
    cases r.getLsbD i <;> rfl
  · rw [UInt8.toNat_ofNat_of_lt' (by have := Nat.mod_lt (Crc.sum x).toNat (show 0 < 256 by omega); simpa using this)]
  · rw [UInt8.toNat_ofNat_of_lt' (by have := Nat.mod_lt ((Crc.sum x).toNat / 256) (show 0 < 256 by omega); simpa using this)]
  · rw [UInt8.toNat_ofNat_of_lt' (by have := Nat.mod_lt ((Crc.sum x).toNat / 65536) (show 0 < 256 by omega); simpa using this)]
  · have := (Crc.sum x).isLt
    rw [UInt8.toNat_ofNat_of_lt' (by show _ < 256; omega)]
theorem getL_turned {n p : Nat} {b : List UInt8} {turn : Crc.W32} (hb : b.length ≤ 43) (hp : p ≤ 480) (ht : turn ≠ 0#32) : (getL n (Crc.flips (pageP n b) p turn 32)).1 ≠ 0 := by
  intro h
  obtain ⟨c, hc, he⟩ := getL_is h
  have := Crc.reg_burst (pageP n b) p turn (~~~0#32) (by rw [pageP_len n hb]; omega) ht
  apply this
  rw [he]
  unfold pageP
  rw [Crc.reg_append, Crc.reg_append, reg_sealedP, reg_sealedP]

/-! ### rows -/
/-- of bytes, how many pages -/
def pages (n : Nat) : Nat := if n = 0 then 1 else (n + 41) / 42
def pieceL (b : List UInt8) (k : Nat) : List UInt8 := (if 42 * (k + 1) < b.length then 1 else 0) :: (b.drop (42 * k)).take 42
def rowL (n : Nat) (b : List UInt8) : List (List UInt8) := (List.range (pages b.length)).map fun k => pageP (n + k) (pieceL b k)
theorem rowL_len (n : Nat) (b : List UInt8) : (rowL n b).length = pages b.length := by simp [rowL]
theorem pieceL_len (b : List UInt8) (k : Nat) : (pieceL b k).length ≤ 43 := by simp [pieceL]; omega
theorem rowL_at (n : Nat) (b : List UInt8) {k : Nat} (h : k < pages b.length) : (rowL n b)[k]'(by rw [rowL_len]; exact h) = pageP (n + k) (pieceL b k) := by simp [rowL]
theorem pages_pos (n : Nat) : 1 ≤ pages n := by unfold pages; split <;> omega
theorem pages_last (b : List UInt8) {k : Nat} (h : k < pages b.length) : 42 * (k + 1) < b.length ↔ k + 1 < pages b.length := by
  unfold pages at *
  by_cases h0 : b.length = 0
  · rw [if_pos h0] at *; omega
  · rw [if_neg h0] at *; omega
theorem pages_go {n k : Nat} (h : k < pages n) : 42 * k ≤ n := by
  unfold pages at h
  split at h <;> omega
theorem pages_end {n k : Nat} (h : k < pages n) (h2 : ¬ 42 * (k + 1) < n) : k + 1 = pages n := by
  unfold pages at *
  by_cases h0 : n = 0
  · rw [if_pos h0] at *; omega
  · rw [if_neg h0] at *; omega
end Go.Proofs.YtklnbmcfnnmliaaDoor
