/-
  GrUsersR, NumMath, packed: what the claim needs of them.
-/
import Derived.BigRegion
import Derived.BigQuiet
import Derived.Deep.RegionWith
import Derived.Test.YtcacicgkebcdkaaPe17
import Derived.Test.YtcacicgkebcdkaaPe23
import GoSem.Op.String
set_option linter.unusedSimpArgs false
set_option linter.unusedVariables false
namespace Go.Ox.Gr
def ruQ0 (top : Bool) (name : Int) (n : Nd) (q : Int × Int) : List ((Int × Int) × Int) := if decide (q.2 < 0) = top then nmN name q n.ins else []
def ruQ1 (top : Bool) (name : Int) (n : Nd) (q : Int × Int) : List ((Int × Int) × Int) := if top = true then (if n.op = 11 ∧ n.a = name then [(q, 0)] else []) else []
def ruP0 (top : Bool) (name : Int) (l : List Nd) (ps : List (Int × Int)) : List ((Int × Int) × Int) := ps.flatMap fun q => ruQ0 top name ((nodeAt l q).getD default) q
def ruP1 (top : Bool) (name : Int) (l : List Nd) (ps : List (Int × Int)) : List ((Int × Int) × Int) := ps.flatMap fun q => ruQ1 top name ((nodeAt l q).getD default) q
def ru (top : Bool) (name : Int) (l : List Nd) : List ((Int × Int) × Int) := ruP0 top name l (places l) ++ ruP1 top name l (places l)
def Lk (l : List Nd) : Prop := l.length ≤ 100 ∧ ∀ n ∈ l, n.body.length ≤ 100 ∧ n.ins.length ≤ 100 ∧ ∀ m ∈ n.body, m.ins.length ≤ 100
theorem Lk.at_ {l : List Nd} (h : Lk l) {q : Pl} {n : Nd} (hn : nodeAt l q = some n) : n.ins.length ≤ 100 := by
  unfold nodeAt at hn
  split at hn
  · cases hm : l[q.1.toNat]? with
    | none => rw [hm] at hn; cases hn
    | some m =>
      rw [hm] at hn
      have h1 := h.2 m (List.mem_of_getElem? hm)
      simp only at hn
      split at hn
      · injection hn with hn; subst hn; exact h1.2.1
      · split at hn
        · exact h1.2.2 n (List.mem_of_getElem? hn)
        · cases hn
  · cases hn
end Go.Ox.Gr
namespace Go.Proofs.Ytcacicgkebcdkaa
open Go.RowKit Go.Ox Go.Ox.Gr
attribute [local irreducible] RE OE NodesR
end Go.Proofs.Ytcacicgkebcdkaa
namespace Go.Ox.Num
def digits (n : Nat) : Nat → List UInt8
  | 0 => []
  | s + 1 => digits (n / 256) s ++ [UInt8.ofNat (n % 256)]
theorem digits_len : ∀ (s n : Nat), (digits n s).length = s
  | 0, _ => rfl
  | s + 1, n => by rw [digits, List.length_append, digits_len s]; rfl
def width (n : Nat) : Nat := if h : n < 256 then 1 else 1 + width (n / 256)
termination_by n
decreasing_by omega
theorem width_pos (n : Nat) : 1 ≤ width n := by
  unfold width; split <;> omega
theorem width_small {n : Nat} (h : n < 256) : width n = 1 := by unfold width; rw [dif_pos h]
theorem width_big {n : Nat} (h : ¬ n < 256) : width n = 1 + width (n / 256) := by rw [width]; rw [dif_neg h]
theorem width_le : ∀ (k n : Nat), 1 ≤ k → (width n ≤ k ↔ n < 256 ^ k)
  | 0, _, h => by omega
  | k + 1, n, _ => by
    by_cases h : n < 256
    · rw [width_small h]
      have : 256 ≤ 256 ^ (k + 1) := by
        rw [Nat.pow_succ]
        have := Nat.pow_pos (n := k) (show 0 < 256 by omega)
        omega
      constructor <;> intro _ <;> omega
    · rw [width_big h]
      cases k with
      | zero =>
        have := width_pos (n / 256)
        constructor
        · intro h1; omega
        · intro h1; simp at h1; omega
      | succ k =>
        rw [show 1 + width (n / 256) ≤ k + 1 + 1 ↔ width (n / 256) ≤ k + 1 by omega, width_le (k + 1) (n / 256) (by omega), Nat.pow_succ 256 (k + 1)]
        rw [Nat.div_lt_iff_lt_mul (by omega)]
def put (n : Nat) : List UInt8 :=
  if n < 240 then [UInt8.ofNat n]
  else if n < 2288 then [UInt8.ofNat (240 + (n - 240) / 256), UInt8.ofNat ((n - 240) % 256)]
  else UInt8.ofNat (246 + width n) :: digits n (width n)
theorem put_1 {n : Nat} (h : n < 240) : put n = [UInt8.ofNat n] := by unfold put; rw [if_pos h]
theorem put_2 {n : Nat} (h : ¬ n < 240) (h2 : n < 2288) : put n = [UInt8.ofNat (240 + (n - 240) / 256), UInt8.ofNat ((n - 240) % 256)] := by unfold put; rw [if_neg h, if_pos h2]
theorem put_3 {n : Nat} (h : ¬ n < 240) (h2 : ¬ n < 2288) : put n = UInt8.ofNat (246 + width n) :: digits n (width n) := by unfold put; rw [if_neg h, if_neg h2]
theorem put_len (n : Nat) : (put n).length = if n < 240 then 1 else if n < 2288 then 2 else 1 + width n := by
  unfold put
  split
  · rfl
  · split
    · rfl
    · rw [List.length_cons, digits_len]; omega
def val (l : List UInt8) : Nat := l.foldl (fun n c => n * 256 + c.toNat) 0
theorem val_snoc (l : List UInt8) (c : UInt8) : val (l ++ [c]) = val l * 256 + c.toNat := by simp [val]
theorem val_digits : ∀ (s n : Nat), val (digits n s) = n % 256 ^ s
  | 0, n => by simp [digits, val, Nat.mod_one]
  | s + 1, n => by
    rw [digits, val_snoc, val_digits s, UInt8.toNat_ofNat_of_lt' (by have := Nat.mod_lt n (show 0 < 256 by omega); simpa using this)]
    rw [Nat.pow_succ, Nat.mul_comm (256 ^ s) 256, Nat.mod_mul, Nat.mul_comm, Nat.add_comm]
theorem valFrom : ∀ (l : List UInt8) (n : Nat), l.foldl (fun n c => n * 256 + c.toNat) n = n * 256 ^ l.length + val l
  | [], n => by simp [val]
  | b :: l, n => by
    rw [List.foldl_cons, valFrom l, show val (b :: l) = l.foldl (fun n c => n * 256 + c.toNat) (0 * 256 + b.toNat) from rfl, valFrom l, List.length_cons, Nat.pow_succ, Nat.add_mul, Nat.zero_mul, Nat.zero_add]
    have : n * 256 * 256 ^ l.length = n * (256 ^ l.length * 256) := by rw [Nat.mul_assoc, Nat.mul_comm 256]
    omega
theorem val_cons (b : UInt8) (l : List UInt8) : val (b :: l) = b.toNat * 256 ^ l.length + val l := by
  show l.foldl (fun n c => n * 256 + c.toNat) (0 * 256 + b.toNat) = _
  rw [valFrom, Nat.zero_mul, Nat.zero_add]
theorem val_app (l r : List UInt8) : val (l ++ r) = val l * 256 ^ r.length + val r := by
  show (l ++ r).foldl (fun n c => n * 256 + c.toNat) 0 = _
  rw [List.foldl_append, valFrom]
  rfl
theorem valFrom_lt : ∀ (l : List UInt8) (n : Nat), l.foldl (fun n c => n * 256 + c.toNat) n < (n + 1) * 256 ^ l.length
  | [], n => by simp
  | c :: l, n => by
    have := valFrom_lt l (n * 256 + c.toNat)
    have hc := c.toNat_lt
    rw [List.foldl_cons, List.length_cons, Nat.pow_succ]
    refine Nat.lt_of_lt_of_le this ?_
    rw [Nat.mul_comm (256 ^ l.length) 256, ← Nat.mul_assoc]
    exact Nat.mul_le_mul_right _ (by omega)
theorem val_lt (l : List UInt8) : val l < 256 ^ l.length := by
  have := valFrom_lt l 0
  simpa [val] using this
attribute [irreducible] digits put val
end Go.Ox.Num
namespace Go.Ox.Num
structure St where
  l : List UInt8
  bad : Bool
def failP (s : St) : St := ⟨s.l, true⟩
def bytesP (n : Int) (s : St) : St × List UInt8 :=
  if s.bad = true ∨ n < 0 ∨ (s.l.length : Int) < n then (failP s, []) else (⟨s.l.drop n.toNat, false⟩, s.l.take n.toNat)
def fixedP (n : Int) (s : St) : St × Nat :=
  if n < 1 ∨ 8 < n then (failP s, 0)
  else if (bytesP n s).1.bad = true ∨ 9223372036854775807 < val (bytesP n s).2 then (failP (bytesP n s).1, 0)
  else ((bytesP n s).1, val (bytesP n s).2)
def mustP (n : Nat) (is : Bool) (s : St) : St × Nat := if s.bad = true ∨ is = false then (failP s, 0) else (s, n)
def numP (s : St) : St × Nat :=
  if (fixedP 1 s).2 < 240 then fixedP 1 s
  else if (fixedP 1 s).2 < 248 then
    mustP (240 + ((fixedP 1 s).2 - 240) * 256 + (fixedP 1 (fixedP 1 s).1).2) true (fixedP 1 (fixedP 1 s).1).1
  else if (fixedP 1 s).2 ≤ 254 then
    mustP (fixedP ((fixedP 1 s).2 - 246 : Nat) (fixedP 1 s).1).2 (decide (2288 ≤ (fixedP ((fixedP 1 s).2 - 246 : Nat) (fixedP 1 s).1).2) && (put (fixedP ((fixedP 1 s).2 - 246 : Nat) (fixedP 1 s).1).2).length == (fixedP 1 s).2 - 245) (fixedP ((fixedP 1 s).2 - 246 : Nat) (fixedP 1 s).1).1
  else (failP (fixedP 1 s).1, 0)
theorem bytesP_out (n : Int) (s : St) : ((bytesP n s).2.length : Int) ≤ n ∨ (bytesP n s).2 = [] := by
  unfold bytesP
  split
  · exact .inr rfl
  · left
    simp; omega
theorem fixedP_val (n : Int) (s : St) : (fixedP n s).2 ≤ 9223372036854775807 := by
  unfold fixedP
  split
  · simp
  · split
    · simp
    · rename_i h; simp only; omega
theorem val_one (b : UInt8) : val [b] = b.toNat := by simp [val]
theorem val_lt_one {l : List UInt8} (h : l.length ≤ 1) : val l < 256 := by
  have := val_lt l
  have h2 : 256 ^ l.length ≤ 256 ^ 1 := Nat.pow_le_pow_right (by omega) h
  omega
theorem fixedP_byte (s : St) : (fixedP 1 s).2 < 256 := by
  have h := bytesP_out 1 s
  have hl : (bytesP 1 s).2.length ≤ 1 := by
    rcases h with h | h
    · omega
    · simp [h]
  have := val_lt_one hl
  unfold fixedP
  split
  · simp
  · split
    · simp
    · exact this
theorem numP_1 {s s1 : St} {c : Nat} (h : fixedP 1 s = (s1, c)) (hc : c < 240) : numP s = (s1, c) := by
  unfold numP; rw [h]; simp [hc]
theorem numP_2 {s s1 s2 : St} {c d : Nat} (h : fixedP 1 s = (s1, c)) (h0 : ¬ c < 240) (hc : c < 248) (h2 : fixedP 1 s1 = (s2, d)) : numP s = mustP (240 + (c - 240) * 256 + d) true s2 := by
  unfold numP; rw [h]; simp [h0, hc, h2]
theorem numP_3 {s s1 s2 : St} {c n : Nat} (h : fixedP 1 s = (s1, c)) (h0 : ¬ c < 240) (h1 : ¬ c < 248) (hc : c ≤ 254) (h2 : fixedP (c - 246 : Nat) s1 = (s2, n)) :
    numP s = mustP n (decide (2288 ≤ n) && (put n).length == c - 245) s2 := by
  unfold numP; rw [h]; simp [h0, h1, hc, h2]
theorem numP_4 {s s1 : St} {c : Nat} (h : fixedP 1 s = (s1, c)) (hc : ¬ c ≤ 254) : numP s = (failP s1, 0) := by
  unfold numP; rw [h]; simp [show ¬ c < 240 by omega, show ¬ c < 248 by omega, hc]
end Go.Ox.Num
namespace Go.Ox.Num
open Go.Op
def hd (n : Nat) : Nat := if n < 240 then n else if n < 2288 then 240 + (n - 240) / 256 else 246 + width n
end Go.Ox.Num
namespace Go.Ox.Num
open Go.Op
theorem fixedP_good {n : Int} {s t : St} {v : Nat} (h : fixedP n s = (t, v)) (hb : t.bad = false) : s.bad = false ∧ 1 ≤ n ∧ n ≤ 8 ∧ ∃ o : List UInt8, s.l = o ++ t.l ∧ (o.length : Int) = n ∧ v = val o := by
  unfold fixedP at h
  split at h
  · injection h with h1 h2; rw [← h1] at hb; cases hb
  · split at h
    · injection h with h1 h2; rw [← h1] at hb; cases hb
    · rename_i h0 h1
      unfold bytesP at h h1
      by_cases hc : s.bad = true ∨ n < 0 ∨ (s.l.length : Int) < n
      · rw [if_pos hc] at h1; exact absurd (.inl rfl) h1
      · rw [if_neg hc] at h
        injection h with e1 e2
        refine ⟨by cases hs : s.bad with | true => exact absurd (.inl hs) hc | false => rfl, by omega, by omega, s.l.take n.toNat, ?_, ?_, e2.symm⟩
        · rw [← e1]; simp
        · rw [List.length_take]; omega
theorem val_inj : ∀ {a b : List UInt8}, a.length = b.length → val a = val b → a = b
  | [], [], _, _ => rfl
  | x :: a, y :: b, h, hv => by
    have hl : a.length = b.length := by simpa using h
    have ha := val_lt a
    have hb := val_lt b
    rw [val_cons, val_cons, ← hl] at hv
    rw [← hl] at hb
    have key : x.toNat = y.toNat ∧ val a = val b := by
      generalize 256 ^ a.length = p at *
      rcases Nat.lt_trichotomy x.toNat y.toNat with q | q | q
      · have : (x.toNat + 1) * p ≤ y.toNat * p := Nat.mul_le_mul_right _ q
        rw [Nat.add_mul] at this; omega
      · rw [q] at hv; exact ⟨q, by omega⟩
      · have : (y.toNat + 1) * p ≤ x.toNat * p := Nat.mul_le_mul_right _ q
        rw [Nat.add_mul] at this; omega
    rw [UInt8.toNat_inj.1 key.1, val_inj hl key.2]
theorem mustP_good {n v : Nat} {is : Bool} {s t : St} (h : mustP n is s = (t, v)) (hb : t.bad = false) : is = true ∧ s.bad = false ∧ t = s ∧ v = n := by
  unfold mustP at h
  split at h
  · injection h with h1 h2; rw [← h1] at hb; cases hb
  · rename_i hc
    injection h with h1 h2
    refine ⟨by cases q : is with | true => rfl | false => exact absurd (.inr q) hc, by cases q : s.bad with | true => exact absurd (.inl q) hc | false => rfl, h1.symm, h2.symm⟩
theorem numP_canon {s t : St} {n : Nat} (h : numP s = (t, n)) (hb : t.bad = false) : s.bad = false ∧ s.l = put n ++ t.l ∧ n < 9223372036854775808 := by
  cases h1 : fixedP 1 s with
  | mk s1 c =>
    have hcv := fixedP_byte s
    rw [h1] at hcv
    simp only at hcv
    by_cases q1 : c < 240
    · rw [numP_1 h1 q1] at h
      injection h with e1 e2
      subst e1 e2
      obtain ⟨a, _, _, o, b, l, v⟩ := fixedP_good h1 hb
      refine ⟨a, ?_, by omega⟩
      match o, l with
      | [x], _ => rw [b, v, val_one, put_1 (by rw [v, val_one] at q1; exact q1)]; simp
      | [], l => simp at l
      | _ :: _ :: _, l => simp at l; omega
    · by_cases q2 : c < 248
      · cases h2 : fixedP 1 s1 with
        | mk s2 d =>
          have hdv := fixedP_byte s1
          rw [h2] at hdv
          simp only at hdv
          rw [numP_2 h1 q1 q2 h2] at h
          obtain ⟨_, b2, e1, e2⟩ := mustP_good h hb
          subst e1
          obtain ⟨a2, _, _, o2, p2, l2, v2⟩ := fixedP_good h2 hb
          obtain ⟨a, _, _, o, p, l, v⟩ := fixedP_good h1 a2
          refine ⟨a, ?_, by omega⟩
          match o, l, o2, l2 with
          | [x], _, [y], _ =>
            rw [val_one] at v v2
            rw [p, p2, e2, put_2 (by omega) (by omega)]
            have e3 : 240 + (240 + (c - 240) * 256 + d - 240) / 256 = x.toNat := by omega
            have e4 : (240 + (c - 240) * 256 + d - 240) % 256 = y.toNat := by omega
            rw [e3, e4]; simp
          | [], l, _, _ => simp at l
          | _ :: _ :: _, l, _, _ => simp at l; omega
          | [_], _, [], l => simp at l
          | [_], _, _ :: _ :: _, l => simp at l; omega
      · by_cases q3 : c ≤ 254
        · cases h2 : fixedP (c - 246 : Nat) s1 with
          | mk s2 d =>
            rw [numP_3 h1 q1 q2 q3 h2] at h
            obtain ⟨his, b2, e1, e2⟩ := mustP_good h hb
            subst e1 e2
            obtain ⟨a2, _, _, o2, p2, l2, v2⟩ := fixedP_good h2 hb
            obtain ⟨a, _, _, o, p, l, v⟩ := fixedP_good h1 a2
            simp only [Bool.and_eq_true, decide_eq_true_eq, beq_iff_eq] at his
            have hlen := put_len n
            rw [if_neg (by omega), if_neg (by omega)] at hlen
            have hw : width n = c - 246 := by omega
            have hn8 : n < 9223372036854775808 := by
              have := fixedP_val (c - 246 : Nat) s1
              rw [h2] at this; simp only at this; omega
            refine ⟨a, ?_, hn8⟩
            match o, l with
            | [x], _ =>
              rw [val_one] at v
              rw [p, p2, put_3 (by omega) (by omega)]
              have e3 : 246 + width n = x.toNat := by omega
              have e4 : digits n (width n) = o2 := by
                refine val_inj (by rw [digits_len]; omega) ?_
                rw [val_digits, Nat.mod_eq_of_lt ((width_le _ n (width_pos n)).1 (Nat.le_refl _)), v2]
              rw [e3, e4]; simp
            | [], l => simp at l
            | _ :: _ :: _, l => simp at l; omega
        · rw [numP_4 h1 q3] at h
          injection h with e1 e2
          rw [← e1] at hb; cases hb
end Go.Ox.Num
