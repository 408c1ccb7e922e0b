/-
  LaWords, packed: what the claim needs of them.
-/
import Derived.Lib.FieldsP
import Derived.Lib.TrimUEq
import Derived.Lib.IndexMore
set_option linter.unusedVariables false
set_option linter.unusedSimpArgs false
namespace Go.Ox.La
open Go Go.Lib
abbrev W := List UInt8
def blankB (c : UInt8) : Bool := c.toNat == 32 || (c.toNat == 9 || (c.toNat == 13 || c.toNat == 10))
def blankR (r : Nat) : Bool := r == 32 || (r == 9 || (r == 13 || r == 10))
def flush (acc : W) : List W := if acc = [] then [] else [acc]
/-- the words of bytes; acc: what of a word has come -/
def splitF : List UInt8 → W → List W
  | [], acc => flush acc
  | c :: r, acc => if blankB c = true then flush acc ++ splitF r [] else splitF r (acc ++ [c])
/-- as the document finds them: a '#' ends them -/
def splitW : List UInt8 → W → List W
  | [], acc => flush acc
  | c :: r, acc => if c.toNat = 35 then flush acc else if blankB c = true then flush acc ++ splitW r [] else splitW r (acc ++ [c])
def wordsL (s : List UInt8) : List W := splitW s []
def head35 (s : List UInt8) : List UInt8 := s.takeWhile fun c => c.toNat != 35
theorem splitW_eq : ∀ (s : List UInt8) (acc : W), splitW s acc = splitF (head35 s) acc
  | [], acc => rfl
  | c :: r, acc => by
    unfold splitW head35
    by_cases h : c.toNat = 35
    · rw [if_pos h, List.takeWhile_cons_of_neg (by simp [h])]; rfl
    · rw [if_neg h, List.takeWhile_cons_of_pos (by simp [h])]
      unfold splitF
      rw [splitW_eq r [], splitW_eq r (acc ++ [c])]
      rfl
theorem splitF_app : ∀ (s : List UInt8) (acc : W) (r : List UInt8), (∀ c ∈ s, blankB c = false) → splitF (s ++ r) acc = splitF r (acc ++ s)
  | [], acc, r, _ => by simp
  | c :: s, acc, r, h => by
    rw [List.cons_append]
    show (if blankB c = true then _ else splitF (s ++ r) (acc ++ [c])) = _
    rw [if_neg (by rw [h c (List.mem_cons_self ..)]; simp), splitF_app s _ r fun x hx => h x (List.mem_cons_of_mem _ hx), List.append_assoc, List.singleton_append]
/-- a rune of more than one byte, or a byte of 128 on, is no blank, and its bytes are none -/
theorem wide_rune (n b0 b1 b2 b3 : Nat) (h0 : 128 ≤ b0) (hn : 1 ≤ n) : 128 ≤ (decodeN n b0 b1 b2 b3).1 ∧ 1 ≤ (decodeN n b0 b1 b2 b3).2 ∧ (decodeN n b0 b1 b2 b3).2 ≤ n ∧
    ((decodeN n b0 b1 b2 b3).2 = 1 ∨ ((decodeN n b0 b1 b2 b3).2 = 2 ∧ b1 / 64 = 2) ∨ ((decodeN n b0 b1 b2 b3).2 = 3 ∧ b1 / 64 = 2 ∧ b2 / 64 = 2) ∨ ((decodeN n b0 b1 b2 b3).2 = 4 ∧ b1 / 64 = 2 ∧ b2 / 64 = 2 ∧ b3 / 64 = 2)) := by
  unfold decodeN
  rw [if_neg (by omega)]
  repeat' split
  all_goals first
    | exact ⟨by simp only; omega, by simp only; omega, by simp only; omega, .inl rfl⟩
    | exact ⟨by simp only; omega, by simp only; omega, by simp only; omega, .inr (.inl ⟨rfl, by omega⟩)⟩
    | exact ⟨by simp only; omega, by simp only; omega, by simp only; omega, .inr (.inr (.inl ⟨rfl, by omega, by omega⟩))⟩
    | exact ⟨by simp only; omega, by simp only; omega, by simp only; omega, .inr (.inr (.inr ⟨rfl, by omega, by omega, by omega⟩))⟩
theorem blank_wide {c : UInt8} (h : 128 ≤ c.toNat) : blankB c = false := by
  unfold blankB
  have h1 : (c.toNat == 32) = false := by simp; omega
  have h2 : (c.toNat == 9) = false := by simp; omega
  have h3 : (c.toNat == 13) = false := by simp; omega
  have h4 : (c.toNat == 10) = false := by simp; omega
  rw [h1, h2, h3, h4]; rfl
theorem blankR_wide {r : Nat} (h : 128 ≤ r) : blankR r = false := by
  unfold blankR
  have h1 : (r == 32) = false := by simp; omega
  have h2 : (r == 9) = false := by simp; omega
  have h3 : (r == 13) = false := by simp; omega
  have h4 : (r == 10) = false := by simp; omega
  rw [h1, h2, h3, h4]; rfl
/-- one step of the runes: what is read is as many bytes, none of which is a blank, or one blank -/
theorem rune_step (l : List UInt8) (pos : Nat) (h : pos < l.length) :
    (blankR (Utf8.decode ⟨l.toArray⟩ pos).1 = true ∧ (Utf8.decode ⟨l.toArray⟩ pos).2 = 1 ∧ blankB l[pos] = true) ∨
    (blankR (Utf8.decode ⟨l.toArray⟩ pos).1 = false ∧ 1 ≤ (Utf8.decode ⟨l.toArray⟩ pos).2 ∧ pos + (Utf8.decode ⟨l.toArray⟩ pos).2 ≤ l.length ∧ ∀ c ∈ (l.drop pos).take (Utf8.decode ⟨l.toArray⟩ pos).2, blankB c = false) := by
  have hd := decode_N ⟨l.toArray⟩ pos
  have hl : (⟨l.toArray⟩ : ByteArray).data.toList = l := rfl
  rw [hl] at hd
  have g0 : l.getD pos 0 = l[pos] := by simp [List.getD, h]
  rw [g0] at hd
  by_cases hb : l[pos].toNat < 128
  · rw [decodeN_ascii _ _ _ _ _ hb] at hd
    rw [hd]
    simp only
    cases hk : blankB l[pos] with
    | true => exact .inl ⟨hk, by first | rfl | trivial, by first | rfl | trivial⟩
    | false =>
      refine .inr ⟨hk, Nat.le_refl _, by omega, fun c hc => ?_⟩
      rw [List.drop_eq_getElem_cons h, List.take_succ_cons, List.take_zero, List.mem_singleton] at hc
      rw [hc]; exact hk
  · have hw := wide_rune (l.length - pos) l[pos].toNat (l.getD (pos + 1) 0).toNat (l.getD (pos + 2) 0).toNat (l.getD (pos + 3) 0).toNat (by omega) (by omega)
    rw [← hd] at hw
    obtain ⟨w1, w2, w3, w4⟩ := hw
    refine .inr ⟨blankR_wide w1, w2, by omega, fun c hc => ?_⟩
    refine blank_wide ?_
    obtain ⟨j, hj, hcj⟩ := List.getElem_of_mem hc
    rw [List.length_take, List.length_drop] at hj
    rw [List.getElem_take, List.getElem_drop] at hcj
    have hget : ∀ k (hk : pos + k < l.length), l.getD (pos + k) 0 = l[pos + k] := fun k hk => by simp [List.getD, hk]
    have h4 : j = 0 ∨ j = 1 ∨ j = 2 ∨ j = 3 := by omega
    rcases h4 with rfl | rfl | rfl | rfl
    · rw [← hcj]; show 128 ≤ (l[pos + 0]).toNat; simp only [Nat.add_zero]; omega
    · have := hget 1 (by omega)
      rw [← hcj, ← this]; omega
    · have := hget 2 (by omega)
      rw [← hcj, ← this]; omega
    · have := hget 3 (by omega)
      rw [← hcj, ← this]; omega
/-- the pieces that spans cut out -/
def pcs (l : List UInt8) (sp : List (Nat × Nat)) : List W := sp.map fun x => (l.drop x.1).take (x.2 - x.1)
theorem pcs_snoc (l : List UInt8) (sp : List (Nat × Nat)) (a b : Nat) : pcs l (sp ++ [(a, b)]) = pcs l sp ++ [(l.drop a).take (b - a)] := by simp [pcs]
theorem flush_cons {acc : W} (h : acc ≠ []) : flush acc = [acc] := by unfold flush; rw [if_neg h]
theorem spans_go (l : List UInt8) : ∀ (f pos : Nat) (st : Option Nat) (acc : List (Nat × Nat)), l.length ≤ pos + f → pos ≤ l.length → (∀ a, st = some a → a < pos) →
    pcs l (closeSpans ⟨l.toArray⟩ (spansFromP blankR ⟨l.toArray⟩ f pos st acc)) = pcs l acc ++ splitF (l.drop pos) (match st with | none => [] | some a => (l.drop a).take (pos - a))
  | 0, pos, st, acc, hf, hp, hs => by
    obtain rfl : pos = l.length := by omega
    rw [List.drop_length]
    cases st with
    | none => simp [spansFromP, closeSpans, splitF, flush]
    | some a =>
      have ha := hs a rfl
      have hne : (l.drop a).take (l.length - a) ≠ [] := by
        intro e
        have := congrArg List.length e
        simp at this
        omega
      simp only [spansFromP, closeSpans, splitF]
      rw [flush_cons hne]
      show pcs l (acc ++ [(a, (⟨l.toArray⟩ : ByteArray).size)]) = _
      rw [pcs_snoc]
      rfl
  | f + 1, pos, st, acc, hf, hp, hs => by
    by_cases h : pos < l.length
    · have hsz : pos < (⟨l.toArray⟩ : ByteArray).size := h
      unfold spansFromP
      rw [if_pos hsz]
      rcases rune_step l pos h with ⟨h1, h2, h3⟩ | ⟨h1, h2, h3, h4⟩
      · rw [if_pos h1, h2, List.drop_eq_getElem_cons h]
        show _ = pcs l acc ++ (if blankB l[pos] = true then flush _ ++ splitF (l.drop (pos + 1)) [] else _)
        rw [if_pos h3]
        cases st with
        | none =>
          simp only
          rw [spans_go l f (pos + 1) none acc (by omega) (by omega) (fun a e => by cases e)]
          simp [flush]
        | some a =>
          have ha := hs a rfl
          have hne : (l.drop a).take (pos - a) ≠ [] := by
            intro e
            have := congrArg List.length e
            simp at this
            omega
          simp only
          rw [spans_go l f (pos + 1) none _ (by omega) (by omega) (fun a e => by cases e), pcs_snoc, flush_cons hne, List.append_assoc]
      · rw [if_neg (by rw [h1]; simp)]
        generalize (Utf8.decode ⟨l.toArray⟩ pos).2 = k at *
        have hsplit : l.drop pos = (l.drop pos).take k ++ l.drop (pos + k) := by
          rw [← List.drop_drop, List.take_append_drop]
        rw [hsplit, splitF_app _ _ _ h4]
        cases st with
        | none =>
          simp only
          rw [spans_go l f (pos + k) (some pos) acc (by omega) h3 (fun a e => by injection e with e; omega)]
          simp only [List.nil_append]
          rw [show pos + k - pos = k by omega]
        | some a =>
          have ha := hs a rfl
          simp only
          rw [spans_go l f (pos + k) (some a) acc (by omega) h3 (fun b e => by injection e with e; subst e; omega)]
          have e1 : (l.drop a).take (pos + k - a) = (l.drop a).take (pos - a) ++ (l.drop pos).take k := by
            rw [show pos + k - a = (pos - a) + k by omega, List.take_add, List.drop_drop, show a + (pos - a) = pos by omega]
          show pcs l acc ++ splitF (l.drop (pos + k)) ((l.drop a).take (pos + k - a)) = _
          rw [e1]
    · obtain rfl : pos = l.length := by omega
      rw [spansFromP_end blankR _ _ _ _ _ (by show ¬ l.length < l.toArray.size; simp)]
      have := spans_go l 0 l.length st acc (by omega) (Nat.le_refl _) hs
      unfold spansFromP at this
      exact this
theorem extract_pc (l : List UInt8) (a b : Nat) : (⟨l.toArray⟩ : ByteArray).extract a b = ⟨((l.drop a).take (b - a)).toArray⟩ := by
  apply ByteArray.ext
  simp [List.extract_toArray]
/-- strings.FieldsFunc at blanks -/
theorem fields_is (l : List UInt8) : goFieldsP blankR ⟨l.toArray⟩ = (splitF l []).map fun x => (⟨x.toArray⟩ : ByteArray) := by
  have h := spans_go l l.length 0 none [] (by omega) (Nat.zero_le _) (fun a e => by cases e)
  unfold goFieldsP spansOfP
  rw [show (⟨l.toArray⟩ : ByteArray).size = l.length from by simp [ByteArray.size]] 
  have h2 : splitF l [] = pcs l (closeSpans ⟨l.toArray⟩ (spansFromP blankR ⟨l.toArray⟩ l.length 0 none [])) := by
    rw [h]; simp [pcs]
  rw [h2]
  unfold pcs
  rw [List.map_map]
  refine List.map_congr_left fun x _ => ?_
  exact extract_pc l x.1 x.2
end Go.Ox.La
