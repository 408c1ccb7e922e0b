/-
  The plain law of entries: their one order, entries in order; which may be. (Printed by gen_ent.py.)
-/
import Derived.Test.YtbokblklldphgaaRecMath
import Derived.Test.YtbokblklldphgaaEnt
namespace Go.Ox.Ent
open Go.Ox

def cmp (a b : E) : Int := if Mom.cmp a.1 b.1 ≠ 0 then Mom.cmp a.1 b.1 else Mom.cmp a.2 b.2
def lt (a b : E) : Prop := Mom.lt a.1 b.1 ∨ (a.1 = b.1 ∧ Mom.lt a.2 b.2)
theorem mcmp_0 {a b : Int × Int} : Mom.cmp a b = 0 ↔ a = b := by
  constructor
  · intro h
    rcases Mom.lt_conn a b with q | q | q
    · have := Mom.cmp_lt.2 q; omega
    · exact q
    · have h1 := Mom.cmp_lt.2 q
      have h2 := Mom.cmp_flip a b
      omega
  · intro h
    subst h
    have h1 : ¬ Mom.cmp a a < 0 := fun q => Mom.lt_irrefl a (Mom.cmp_lt.1 q)
    have h2 := Mom.cmp_flip a a
    omega
theorem cmp_lt {a b : E} : cmp a b < 0 ↔ lt a b := by
  unfold cmp lt
  by_cases h : Mom.cmp a.1 b.1 = 0
  · rw [if_neg (by simpa using h)]
    have h1 := mcmp_0.1 h
    have h2 : ¬ Mom.lt a.1 b.1 := by rw [h1]; exact Mom.lt_irrefl _
    simp only [h1, true_and, Mom.cmp_lt]
    exact ⟨fun q => .inr q, fun q => q.resolve_left (Mom.lt_irrefl _)⟩
  · rw [if_pos h]
    have h1 : a.1 ≠ b.1 := fun q => h (mcmp_0.2 q)
    rw [Mom.cmp_lt]
    exact ⟨fun q => .inl q, fun q => q.resolve_right fun r => h1 r.1⟩
theorem cmp_flip (a b : E) : cmp b a = - cmp a b := by
  unfold cmp
  rw [Mom.cmp_flip a.1 b.1, Mom.cmp_flip a.2 b.2]
  by_cases h : Mom.cmp a.1 b.1 = 0
  · rw [if_neg (by omega), if_neg (by omega)]
  · rw [if_pos (by omega), if_pos h]
theorem lt_irrefl (a : E) : ¬ lt a a := fun h => by
  rcases h with h | h
  · exact Mom.lt_irrefl _ h
  · exact Mom.lt_irrefl _ h.2
theorem lt_trans {a b c : E} (h : lt a b) (k : lt b c) : lt a c := by
  rcases h with h | ⟨h1, h2⟩
  · rcases k with k | ⟨k1, k2⟩
    · exact .inl (Mom.lt_trans h k)
    · exact .inl (by rw [← k1]; exact h)
  · rcases k with k | ⟨k1, k2⟩
    · exact .inl (by rw [h1]; exact k)
    · exact .inr ⟨h1.trans k1, Mom.lt_trans h2 k2⟩
theorem lt_conn (a b : E) : lt a b ∨ a = b ∨ lt b a := by
  rcases Mom.lt_conn a.1 b.1 with h | h | h
  · exact .inl (.inl h)
  · rcases Mom.lt_conn a.2 b.2 with k | k | k
    · exact .inl (.inr ⟨h, k⟩)
    · exact .inr (.inl (Prod.ext h k))
    · exact .inr (.inr (.inr ⟨h.symm, k⟩))
  · exact .inr (.inr (.inl h))
instance decLt (a b : E) : Decidable (lt a b) := by unfold lt; infer_instance
theorem not_lt_trans {a b c : E} (h : ¬ lt b a) (k : ¬ lt c b) : ¬ lt c a := fun q => by
  rcases lt_conn a b with r | r | r
  · exact k (lt_trans q r)
  · subst r; exact k q
  · exact h r
theorem not_both (a b : E) : ¬ lt b a ∨ ¬ lt a b := by
  by_cases h : lt b a
  · exact .inr fun k => lt_irrefl _ (lt_trans h k)
  · exact .inl h
/-- which entry may be -/
def okE (e : E) : Int := if Mom.ok e.1 = true then (if Rec.ok e.2 = true then 0 else 30) else 40
/-- what is wrong with the first one that may not be -/
def chk : List E → Int
  | [] => 0
  | e :: l => if okE e = 0 then chk l else okE e
theorem chk_ok {e : E} {l : List E} (h : okE e = 0) : chk (e :: l) = chk l := if_pos h
theorem chk_bad {e : E} {l : List E} (h : okE e ≠ 0) : chk (e :: l) = okE e := if_neg h
/-- what is wrong with entries -/
def may (l : List E) : Int := if chk l ≠ 0 then chk l else if 16384 < l.length then 3 else 0
theorem chk_mem : ∀ {l : List E}, chk l = 0 → ∀ e ∈ l, okE e = 0
  | e :: l, h, x, hx => by
    by_cases hm : okE e = 0
    · rw [chk_ok hm] at h
      rcases List.mem_cons.1 hx with q | q
      · rw [q]; exact hm
      · exact chk_mem h x q
    · rw [chk_bad hm] at h; exact absurd h hm
theorem chk_of : ∀ {l : List E}, (∀ e ∈ l, okE e = 0) → chk l = 0
  | [], _ => rfl
  | e :: l, h => by rw [chk_ok (h e (List.mem_cons_self ..))]; exact chk_of fun x hx => h x (List.mem_cons_of_mem _ hx)
theorem may_ok {l : List E} (h : may l = 0) : (∀ e ∈ l, okE e = 0) ∧ l.length ≤ 16384 := by
  unfold may at h
  split at h
  · rename_i q; exact absurd h q
  · rename_i q
    split at h
    · cases h
    · exact ⟨chk_mem (by simpa using q), by omega⟩
theorem may_of {l : List E} (h : ∀ e ∈ l, okE e = 0) (hl : l.length ≤ 16384) : may l = 0 := by
  unfold may
  rw [chk_of h, if_neg (by simp), if_neg (by omega)]
theorem okE_0 {e : E} (h : okE e = 0) : Mom.ok e.1 = true ∧ Rec.ok e.2 = true := by
  unfold okE at h
  split at h
  · rename_i q
    split at h
    · rename_i r; exact ⟨q, r⟩
    · cases h
  · cases h
theorem antisymm {a b : E} (h : ¬ lt a b) (k : ¬ lt b a) : a = b := by
  rcases lt_conn a b with q | q | q
  · exact absurd q h
  · exact q
  · exact absurd q k
/-- in order -/
def Asc (l : List E) : Prop := l.Pairwise fun a b => ¬ lt b a
theorem asc_one : ∀ {a b : List E}, Asc a → Asc b → a.Perm b → a = b
  | [], b, _, _, h => by rw [h.nil_eq]
  | x :: a, [], _, _, h => by have := h.length_eq; simp at this
  | x :: a, y :: b, ha, hb, h => by
    have ha' := List.pairwise_cons.1 ha
    have hb' := List.pairwise_cons.1 hb
    have e : x = y := by
      rcases List.mem_cons.1 (h.mem_iff.1 (List.mem_cons_self ..)) with r | r
      · exact r
      · rcases List.mem_cons.1 (h.mem_iff.2 (List.mem_cons_self ..)) with q | q
        · exact q.symm
        · exact antisymm (hb'.1 x r) (ha'.1 y q)
    subst e
    rw [asc_one (a := a) (b := b) ha'.2 hb'.2 (List.Perm.cons_inv h)]
/-- a bag in order -/
def srt (l : List E) : List E := l.mergeSort fun a b => decide (¬ lt b a)
theorem srt_perm (l : List E) : (srt l).Perm l := List.mergeSort_perm l _
theorem srt_asc (l : List E) : Asc (srt l) := by
  have h := List.pairwise_mergeSort (le := fun a b : E => decide (¬ lt b a)) (fun a b c h1 h2 => by
      simp only [decide_eq_true_eq] at *
      exact not_lt_trans h1 h2) (fun a b => by
      simp only [Bool.or_eq_true, decide_eq_true_eq]
      exact not_both a b) l
  exact h.imp fun h => by simpa using h
theorem srt_is {s l : List E} (h : Asc s) (hp : s.Perm l) : s = srt l := asc_one h (srt_asc l) (hp.trans (srt_perm l).symm)
theorem srt_len (l : List E) : (srt l).length = l.length := (srt_perm l).length_eq
theorem srt_short {l : List E} (h : l.length < 2) : srt l = l := by
  refine (srt_is ?_ (List.Perm.refl l)).symm
  match l, h with
  | [], _ => exact List.Pairwise.nil
  | [x], _ => exact List.pairwise_singleton _ _
theorem srt_congr {l r : List E} (h : l.Perm r) : srt l = srt r := srt_is (srt_asc l) ((srt_perm l).trans h)

/-! ### two in order, merged: i of the one and j of the other are out -/
structure Mer (a b : List E) (i j : Nat) (out : List E) : Prop where
  perm : out.Perm (a.take i ++ b.take j)
  asc : Asc out
  low : ∀ x ∈ out, ∀ y ∈ a.drop i ++ b.drop j, ¬ lt y x
theorem Mer.start (a b : List E) : Mer a b 0 0 [] := ⟨by simp, List.Pairwise.nil, by simp⟩
theorem Mer.left {a b : List E} {i j : Nat} {out : List E} (h : Mer a b i j out) (ha : Asc a) (hb : Asc b) (hi : i < a.length) (hq : ∀ hj : j < b.length, ¬ lt b[j] a[i]) : Mer a b (i + 1) j (out ++ [a[i]]) := by
  have hda : a.drop i = a[i] :: a.drop (i + 1) := List.drop_eq_getElem_cons hi
  refine ⟨?_, ?_, ?_⟩
  · rw [List.take_succ_eq_append_getElem hi, List.append_assoc]
    refine (h.perm.append_right _).trans ?_
    rw [List.append_assoc]
    exact (List.perm_append_comm).append_left _
  · refine List.pairwise_append.2 ⟨h.asc, List.pairwise_singleton _ _, fun x hx y hy => ?_⟩
    rw [List.mem_singleton.1 hy]
    exact h.low x hx _ (by rw [hda]; exact List.mem_append_left _ (List.mem_cons_self ..))
  · intro x hx y hy
    rcases List.mem_append.1 hx with hx | hx
    · refine h.low x hx y ?_
      rcases List.mem_append.1 hy with hy | hy
      · rw [hda]; exact List.mem_append_left _ (List.mem_cons_of_mem _ hy)
      · exact List.mem_append_right _ hy
    · rw [List.mem_singleton.1 hx]
      rcases List.mem_append.1 hy with hy | hy
      · have hp : (a[i] :: a.drop (i + 1)).Pairwise fun a b => ¬ lt b a := by rw [← hda]; exact List.Pairwise.sublist (List.drop_sublist _ _) ha
        exact (List.pairwise_cons.1 hp).1 y hy
      · rcases Nat.lt_or_ge j b.length with hj | hj
        · have hdb : b.drop j = b[j] :: b.drop (j + 1) := List.drop_eq_getElem_cons hj
          rw [hdb] at hy
          rcases List.mem_cons.1 hy with rfl | hy
          · exact hq hj
          · have hp : (b[j] :: b.drop (j + 1)).Pairwise fun a b => ¬ lt b a := by rw [← hdb]; exact List.Pairwise.sublist (List.drop_sublist _ _) hb
            exact not_lt_trans (hq hj) ((List.pairwise_cons.1 hp).1 y hy)
        · rw [List.drop_eq_nil_of_le hj] at hy; simp at hy
theorem Mer.right {a b : List E} {i j : Nat} {out : List E} (h : Mer a b i j out) (ha : Asc a) (hb : Asc b) (hj : j < b.length) (hq : ∀ hi : i < a.length, lt b[j] a[i]) : Mer a b i (j + 1) (out ++ [b[j]]) := by
  have hdb : b.drop j = b[j] :: b.drop (j + 1) := List.drop_eq_getElem_cons hj
  have hlt : ∀ {x y : E}, lt x y → ¬ lt y x := fun h k => lt_irrefl _ (lt_trans h k)
  refine ⟨?_, ?_, ?_⟩
  · rw [List.take_succ_eq_append_getElem hj, ← List.append_assoc]
    exact h.perm.append_right _
  · refine List.pairwise_append.2 ⟨h.asc, List.pairwise_singleton _ _, fun x hx y hy => ?_⟩
    rw [List.mem_singleton.1 hy]
    exact h.low x hx _ (by rw [hdb]; exact List.mem_append_right _ (List.mem_cons_self ..))
  · intro x hx y hy
    rcases List.mem_append.1 hx with hx | hx
    · refine h.low x hx y ?_
      rcases List.mem_append.1 hy with hy | hy
      · exact List.mem_append_left _ hy
      · rw [hdb]; exact List.mem_append_right _ (List.mem_cons_of_mem _ hy)
    · rw [List.mem_singleton.1 hx]
      rcases List.mem_append.1 hy with hy | hy
      · rcases Nat.lt_or_ge i a.length with hi | hi
        · have hda : a.drop i = a[i] :: a.drop (i + 1) := List.drop_eq_getElem_cons hi
          rw [hda] at hy
          rcases List.mem_cons.1 hy with rfl | hy
          · exact hlt (hq hi)
          · have hp : (a[i] :: a.drop (i + 1)).Pairwise fun a b => ¬ lt b a := by rw [← hda]; exact List.Pairwise.sublist (List.drop_sublist _ _) ha
            exact not_lt_trans (hlt (hq hi)) ((List.pairwise_cons.1 hp).1 y hy)
        · rw [List.drop_eq_nil_of_le hi] at hy; simp at hy
      · have hp : (b[j] :: b.drop (j + 1)).Pairwise fun a b => ¬ lt b a := by rw [← hdb]; exact List.Pairwise.sublist (List.drop_sublist _ _) hb
        exact (List.pairwise_cons.1 hp).1 y hy
theorem Mer.done {a b : List E} {out : List E} (h : Mer a b a.length b.length out) {l : List E} (hp : (a ++ b).Perm l) : out = srt l := by
  refine srt_is h.asc (h.perm.trans ?_)
  rw [List.take_length, List.take_length]
  exact hp
end Go.Ox.Ent
