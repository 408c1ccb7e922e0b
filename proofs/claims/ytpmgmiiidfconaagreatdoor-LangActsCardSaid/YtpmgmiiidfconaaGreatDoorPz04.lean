/-
  Eff, packed: what the claim needs of them.
-/
import Derived.Test.YtpmgmiiidfconaaGreatDoorPz02
import Derived.StillTail
import Derived.WalkKit
namespace Go.Ox
open Go.RowKit
inductive Dep (ps : List Planned) : Nat → Nat → Prop
  | one {j k : Nat} {p : Planned} {e : Edge} : ps[j]? = some p → e ∈ p.o.after → Region.binds .any e = true → e.on = k → Dep ps j k
  | more {j k : Nat} {p : Planned} {e : Edge} : ps[j]? = some p → e ∈ p.o.after → Region.binds .any e = true → Dep ps e.on k → Dep ps j k
def maskOf (acc : List Nat) (es : List Edge) : Nat :=
  es.foldl (fun s e => if Region.binds .any e = true then s ||| (2 ^ e.on) ||| acc.getD e.on 0 else s) 0
def masks : List Planned → List Nat → List Nat
  | [], acc => acc
  | p :: l, acc => masks l (acc ++ [maskOf acc p.o.after.toList])
theorem testBit_fold (acc : List Nat) (k : Nat) : ∀ (es : List Edge) (s : Nat), (es.foldl (fun s e => if Region.binds .any e = true then s ||| (2 ^ e.on) ||| acc.getD e.on 0 else s) s).testBit k = true →
    s.testBit k = true ∨ ∃ e ∈ es, Region.binds .any e = true ∧ (e.on = k ∨ (acc.getD e.on 0).testBit k = true)
  | [], s, h => .inl h
  | e :: es, s, h => by
    rw [List.foldl_cons] at h
    rcases testBit_fold acc k es _ h with h | ⟨x, hx, hb, h⟩
    · split at h
      · rename_i hb
        simp only [Nat.testBit_or, Bool.or_eq_true] at h
        rcases h with (h | h) | h
        · exact .inl h
        · refine .inr ⟨e, List.mem_cons_self .., hb, .inl ?_⟩
          rw [Nat.testBit_two_pow] at h
          simpa using h
        · exact .inr ⟨e, List.mem_cons_self .., hb, .inr h⟩
      · exact .inl h
    · exact .inr ⟨x, List.mem_cons_of_mem _ hx, hb, h⟩
theorem masks_sound {ps : List Planned} : ∀ (l pre : List Planned) (acc : List Nat), ps = pre ++ l → acc.length = pre.length → (∀ i k, (acc.getD i 0).testBit k = true → Dep ps i k) →
    ∀ i k, ((masks l acc).getD i 0).testBit k = true → Dep ps i k
  | [], _, acc, _, _, h => h
  | p :: l, pre, acc, hp, hl, h => by
    refine masks_sound l (pre ++ [p]) _ (by simp [hp]) (by simp [hl]) fun i k hk => ?_
    rcases Nat.lt_trichotomy i acc.length with hi | hi | hi
    · rw [List.getD_eq_getElem?_getD, List.getElem?_append_left hi, ← List.getD_eq_getElem?_getD] at hk
      exact h i k hk
    · subst hi
      have hj : ps[acc.length]? = some p := by rw [hp, hl]; simp
      rw [List.getD_eq_getElem?_getD, List.getElem?_append_right (Nat.le_refl _)] at hk
      simp only [Nat.sub_self, List.getElem?_cons_zero, Option.getD_some] at hk
      rcases testBit_fold acc k _ _ hk with hk | ⟨e, he, hb, hk⟩
      · simp at hk
      · have he : e ∈ p.o.after := by simpa using he
        rcases hk with hk | hk
        · exact .one hj he hb hk
        · exact .more hj he hb (h _ _ hk)
    · rw [List.getD_eq_getElem?_getD, List.getElem?_eq_none (by simp; omega)] at hk
      simp at hk
theorem dep_listed {ps : List Planned} {listed : Array Bool}
    (hc : ∀ (j : Nat) (p : Planned), ps[j]? = some p → listed.getD j true = true → ∀ e ∈ p.o.after, Region.binds .any e = true → listed.getD e.on false = true)
    {j k : Nat} (h : Dep ps j k) : (∀ p, ps[j]? = some p → ∀ e ∈ p.o.after, Region.binds .any e = true → listed.getD e.on false = true) → listed.getD k false = true := by
  induction h with
  | one hp he hb hk => intro hall; rw [← hk]; exact hall _ hp _ he hb
  | @more j k p e hp he hb hd ih =>
    intro hall
    have hl := hall _ hp _ he hb
    refine ih fun q hq x hx hxb => hc _ q hq ?_ x hx hxb
    have : e.on < listed.size := by
      rcases Nat.lt_or_ge e.on listed.size with h | h
      · exact h
      · simp [Array.getD, Nat.not_lt.2 h] at hl
    rw [getD_true_iff this]; exact hl
/-- the positions of the operations that change the world -/
def effIx (eff : List Tmp) : List Planned → Nat → List Nat
  | [], _ => []
  | p :: l, n => if eff.contains p.d then n :: effIx eff l (n + 1) else effIx eff l (n + 1)
/-- each of them stands behind the one before it -/
def chained (ms : List Nat) : List Nat → Bool
  | j :: k :: l => (ms.getD k 0).testBit j && decide (j < k) && chained ms (k :: l)
  | _ => true
theorem effIx_shift (eff : List Tmp) : ∀ (l : List Planned) (n : Nat), effIx eff l (n + 1) = (effIx eff l n).map (· + 1)
  | [], _ => rfl
  | p :: l, n => by
    unfold effIx
    split
    · rw [List.map_cons, effIx_shift eff l (n + 1)]
    · rw [effIx_shift eff l (n + 1)]
theorem chained_at {ms : List Nat} : ∀ (l : List Nat), chained ms l = true → ∀ i j k, l[i]? = some j → l[i + 1]? = some k → (ms.getD k 0).testBit j = true ∧ j < k
  | [], _, i, j, k, h1, _ => by simp at h1
  | [a], _, i, j, k, _, h2 => by simp at h2
  | a :: b :: l, h, 0, j, k, h1, h2 => by
    simp only [chained, Bool.and_eq_true, decide_eq_true_eq] at h
    simp at h1 h2; subst h1 h2
    exact h.1
  | a :: b :: l, h, i + 1, j, k, h1, h2 => by
    simp only [chained, Bool.and_eq_true, decide_eq_true_eq] at h
    exact chained_at (b :: l) h.2 i j k (by simpa using h1) (by simpa using h2)
theorem chained_lt {ms : List Nat} {l : List Nat} (h : chained ms l = true) (i : Nat) : ∀ (d : Nat) {j k : Nat}, l[i]? = some j → l[i + d + 1]? = some k → j < k
  | 0, j, k, h1, h2 => (chained_at l h i j k h1 h2).2
  | d + 1, j, k, h1, h2 => by
    have hl : i + d + 1 < l.length := by
      rcases Nat.lt_or_ge (i + d + 1) l.length with h | h
      · exact h
      · rw [List.getElem?_eq_none (by omega)] at h2; cases h2
    have h3 : l[i + d + 1]? = some l[i + d + 1] := List.getElem?_eq_getElem hl
    exact Nat.lt_trans (chained_lt h i d h1 h3) (chained_at l h (i + d + 1) _ k h3 h2).2
/-- the operations that need to know how far it has come, and that -/
def ancIx (eff anc : List Tmp) : List Planned → Nat → Nat → List (Nat × Nat)
  | [], _, _ => []
  | p :: l, n, k => if eff.contains p.d then ancIx eff anc l (n + 1) (k + 1) else if anc.contains p.d then (n, k) :: ancIx eff anc l (n + 1) k else ancIx eff anc l (n + 1) k
def anchored (ms es : List Nat) (l : List (Nat × Nat)) : Bool :=
  l.all fun (j, k) => (k == 0 || match es[k - 1]? with | some e => (ms.getD j 0).testBit e | none => false) && (match es[k]? with | some e => (ms.getD e 0).testBit j | none => true)
theorem ancIx_shift (eff anc : List Tmp) : ∀ (l : List Planned) (n k : Nat), ancIx eff anc l (n + 1) k = (ancIx eff anc l n k).map (fun x => (x.1 + 1, x.2))
  | [], _, _ => rfl
  | p :: l, n, k => by
    unfold ancIx
    split
    · rw [ancIx_shift eff anc l (n + 1)]
    · split
      · rw [List.map_cons, ancIx_shift eff anc l (n + 1)]
      · rw [ancIx_shift eff anc l (n + 1)]
theorem ancIx_shift2 (eff anc : List Tmp) : ∀ (l : List Planned) (n k : Nat), ancIx eff anc l n (k + 1) = (ancIx eff anc l n k).map (fun x => (x.1, x.2 + 1))
  | [], _, _ => rfl
  | p :: l, n, k => by
    unfold ancIx
    split
    · rw [ancIx_shift2 eff anc l (n + 1) (k + 1)]
    · split
      · rw [List.map_cons, ancIx_shift2 eff anc l (n + 1)]
      · rw [ancIx_shift2 eff anc l (n + 1)]
section
variable {P : Program} {ops : Array Oper} {Q : Exit → Act → World → Prop} {R0 R : World → World → Prop} {a0 : Act} {w0 : World}
/-- what an operation owes that changes the world: from a world of the one kind to one of the other -/
def OwesE (P : Program) (Q : Exit → Act → World → Prop) (R : World → World → Prop) (a0 : Act) (w0 : World) (S S' : World → Prop) (fs : List (Tmp × Pred)) (p : Planned) (I : Pred) : Prop :=
  (∀ v w w', I v w → R w w' → I v w') ∧
  ∀ (a : Act) (w : World), R w0 w → S w → LooksF fs a0 a w p.looks
    (if wantedS p.g a = true then p.o.wp P a w (fun a' w' => ∃ v, a' = a.put (some p.d) v ∧ R w w' ∧ S' w' ∧ I v w') Q else S' w ∧ I undef w)
/-- what any other operation owes -/
def OwesP (P : Program) (Q : Exit → Act → World → Prop) (R0 R : World → World → Prop) (a0 : Act) (w0 : World) (fs : List (Tmp × Pred)) (p : Planned) (I : Pred) : Prop :=
  (∀ v w w', I v w → R w w' → I v w') ∧
  ∀ (a : Act) (w : World), R w0 w → LooksF fs a0 a w p.looks
    (if wantedS p.g a = true then p.o.wp P a w (fun a' w' => ∃ v, a' = a.put (some p.d) v ∧ R0 w w' ∧ I v w') Q else I undef w)
/-- what an operation owes that needs to know how far it has come -/
def OwesA (P : Program) (Q : Exit → Act → World → Prop) (R0 R : World → World → Prop) (a0 : Act) (w0 : World) (S : World → Prop) (fs : List (Tmp × Pred)) (p : Planned) (I : Pred) : Prop :=
  (∀ v w w', I v w → R w w' → I v w') ∧
  ∀ (a : Act) (w : World), R w0 w → S w → LooksF fs a0 a w p.looks
    (if wantedS p.g a = true then p.o.wp P a w (fun a' w' => ∃ v, a' = a.put (some p.d) v ∧ R0 w w' ∧ I v w') Q else I undef w)
def wpE (P : Program) (Q : Exit → Act → World → Prop) (R0 R : World → World → Prop) (a0 : Act) (w0 : World) (eff anc : List Tmp) : (World → Prop) → List Planned → List (Tmp × Pred) → Prop
  | S, [], fs => ∀ w, R w0 w → S w → FinV (fun a => Q .normal a w) w fs.reverse a0
  | S, p :: rest, fs =>
    if eff.contains p.d = true then ∃ (I : Pred) (S' : World → Prop), (∀ w w', S' w → R0 w w' → S' w') ∧ OwesE P Q R a0 w0 S S' fs p I ∧ wpE P Q R0 R a0 w0 eff anc S' rest ((p.d, I) :: fs)
    else if anc.contains p.d = true then ∃ I : Pred, OwesA P Q R0 R a0 w0 S fs p I ∧ wpE P Q R0 R a0 w0 eff anc S rest ((p.d, I) :: fs)
    else ∃ I : Pred, OwesP P Q R0 R a0 w0 fs p I ∧ wpE P Q R0 R a0 w0 eff anc S rest ((p.d, I) :: fs)
theorem wpE_parts {eff anc : List Tmp} : ∀ (l : List Planned) (S : World → Prop) (fs : List (Tmp × Pred)), (∀ w w', S w → R0 w w' → S w') → wpE P Q R0 R a0 w0 eff anc S l fs → ∃ (Is : List Pred) (Ss : List (World → Prop)),
    Is.length = l.length ∧ Ss.length = (effIx eff l 0).length + 1 ∧ Ss[0]? = some S ∧ (∀ T ∈ Ss, ∀ w w', T w → R0 w w' → T w') ∧
    (∀ (j : Nat) (p : Planned) (I : Pred), l[j]? = some p → Is[j]? = some I → eff.contains p.d = false → anc.contains p.d = false → OwesP P Q R0 R a0 w0 (factsAt l Is j ++ fs) p I) ∧
    (∀ (j : Nat) (p : Planned) (I : Pred), l[j]? = some p → Is[j]? = some I → eff.contains p.d = false → anc.contains p.d = true → ∃ (k : Nat) (T : World → Prop), (j, k) ∈ ancIx eff anc l 0 0 ∧ Ss[k]? = some T ∧ OwesA P Q R0 R a0 w0 T (factsAt l Is j ++ fs) p I) ∧
    (∀ (j : Nat) (p : Planned) (I : Pred), l[j]? = some p → Is[j]? = some I → eff.contains p.d = true → ∃ (i : Nat) (T T' : World → Prop), (effIx eff l 0)[i]? = some j ∧ Ss[i]? = some T ∧ Ss[i + 1]? = some T' ∧ OwesE P Q R a0 w0 T T' (factsAt l Is j ++ fs) p I) ∧
    ∃ T, Ss[(effIx eff l 0).length]? = some T ∧ ∀ w, R w0 w → T w → FinV (fun a => Q .normal a w) w (fs.reverse ++ ((l.map (·.d)).zip Is)) a0
  | [], S, fs, hS, h => ⟨[], [S], rfl, rfl, rfl, by simpa using hS, by simp, by simp, by simp, S, rfl, by simpa [wpE] using h⟩
  | p :: l, S, fs, hS, h => by
    unfold wpE at h
    split at h
    · rename_i he
      obtain ⟨I, S', hS', ho, hr⟩ := h
      obtain ⟨Is, Ss, h1, h2, h3, h4, h5, h5a, h6, T, h7, h8⟩ := wpE_parts l S' _ hS' hr
      have hx : effIx eff (p :: l) 0 = 0 :: (effIx eff l 0).map (· + 1) := by
        conv => lhs; unfold effIx
        rw [if_pos he, effIx_shift]
      have hy : ancIx eff anc (p :: l) 0 0 = (ancIx eff anc l 0 0).map (fun x => (x.1 + 1, x.2 + 1)) := by
        conv => lhs; unfold ancIx
        rw [if_pos he, ancIx_shift, ancIx_shift2, List.map_map]
        rfl
      refine ⟨I :: Is, S :: Ss, by simp [h1], by rw [hx]; simp [h2], rfl, ?_, ?_, ?_, ?_, T, by rw [hx]; simpa using h7, fun w hw hT => by simpa using h8 w hw hT⟩
      · intro U hU
        rcases List.mem_cons.1 hU with rfl | hU
        · exact hS
        · exact h4 U hU
      · intro j q J hq hJ hn hm
        cases j with
        | zero => simp at hq; subst hq; rw [he] at hn; cases hn
        | succ j => simpa [factsAt, List.append_assoc] using h5 j q J (by simpa using hq) (by simpa using hJ) hn hm
      · intro j q J hq hJ hn hm
        cases j with
        | zero => simp at hq; subst hq; rw [he] at hn; cases hn
        | succ j =>
          obtain ⟨k, U, a, b, c⟩ := h5a j q J (by simpa using hq) (by simpa using hJ) hn hm
          exact ⟨k + 1, U, by rw [hy]; exact List.mem_map.2 ⟨_, a, rfl⟩, by simpa using b, by simpa [factsAt, List.append_assoc] using c⟩
      · intro j q J hq hJ hn
        cases j with
        | zero =>
          simp at hq hJ; subst hq hJ
          exact ⟨0, S, S', by rw [hx]; rfl, rfl, by simpa using h3, by simpa [factsAt] using ho⟩
        | succ j =>
          obtain ⟨i, U, U', a, b, c, d⟩ := h6 j q J (by simpa using hq) (by simpa using hJ) hn
          exact ⟨i + 1, U, U', by rw [hx]; simp [a], by simpa using b, by simpa using c, by simpa [factsAt, List.append_assoc] using d⟩
    · rename_i he
      have hx : effIx eff (p :: l) 0 = (effIx eff l 0).map (· + 1) := by
        conv => lhs; unfold effIx
        rw [if_neg he, effIx_shift]
      split at h
      · rename_i hac
        obtain ⟨I, ho, hr⟩ := h
        obtain ⟨Is, Ss, h1, h2, h3, h4, h5, h5a, h6, T, h7, h8⟩ := wpE_parts l S _ hS hr
        have hy : ancIx eff anc (p :: l) 0 0 = (0, 0) :: (ancIx eff anc l 0 0).map (fun x => (x.1 + 1, x.2)) := by
          conv => lhs; unfold ancIx
          rw [if_neg he, if_pos hac, ancIx_shift]
        refine ⟨I :: Is, Ss, by simp [h1], by rw [hx]; simp [h2], h3, h4, ?_, ?_, ?_, T, by rw [hx]; simpa using h7, fun w hw hT => by simpa using h8 w hw hT⟩
        · intro j q J hq hJ hn hm
          cases j with
          | zero => simp at hq; subst hq; rw [hac] at hm; cases hm
          | succ j => simpa [factsAt, List.append_assoc] using h5 j q J (by simpa using hq) (by simpa using hJ) hn hm
        · intro j q J hq hJ hn hm
          cases j with
          | zero =>
            simp at hq hJ; subst hq hJ
            exact ⟨0, S, by rw [hy]; exact List.mem_cons_self .., h3, by simpa [factsAt] using ho⟩
          | succ j =>
            obtain ⟨k, U, a, b, c⟩ := h5a j q J (by simpa using hq) (by simpa using hJ) hn hm
            exact ⟨k, U, by rw [hy]; exact List.mem_cons_of_mem _ (List.mem_map.2 ⟨_, a, rfl⟩), b, by simpa [factsAt, List.append_assoc] using c⟩
        · intro j q J hq hJ hn
          cases j with
          | zero => simp at hq; subst hq; rw [hn] at he; cases he rfl
          | succ j =>
            obtain ⟨i, U, U', a, b, c, d⟩ := h6 j q J (by simpa using hq) (by simpa using hJ) hn
            exact ⟨i, U, U', by rw [hx]; simp [a], b, c, by simpa [factsAt, List.append_assoc] using d⟩
      · rename_i hac
        obtain ⟨I, ho, hr⟩ := h
        obtain ⟨Is, Ss, h1, h2, h3, h4, h5, h5a, h6, T, h7, h8⟩ := wpE_parts l S _ hS hr
        have hy : ancIx eff anc (p :: l) 0 0 = (ancIx eff anc l 0 0).map (fun x => (x.1 + 1, x.2)) := by
          conv => lhs; unfold ancIx
          rw [if_neg he, if_neg hac, ancIx_shift]
        refine ⟨I :: Is, Ss, by simp [h1], by rw [hx]; simp [h2], h3, h4, ?_, ?_, ?_, T, by rw [hx]; simpa using h7, fun w hw hT => by simpa using h8 w hw hT⟩
        · intro j q J hq hJ hn hm
          cases j with
          | zero => simp at hq hJ; subst hq hJ; simpa [factsAt] using ho
          | succ j => simpa [factsAt, List.append_assoc] using h5 j q J (by simpa using hq) (by simpa using hJ) hn hm
        · intro j q J hq hJ hn hm
          cases j with
          | zero => simp at hq; subst hq; rw [hm] at hac; cases hac rfl
          | succ j =>
            obtain ⟨k, U, a, b, c⟩ := h5a j q J (by simpa using hq) (by simpa using hJ) hn hm
            exact ⟨k, U, by rw [hy]; exact List.mem_map.2 ⟨_, a, rfl⟩, b, by simpa [factsAt, List.append_assoc] using c⟩
        · intro j q J hq hJ hn
          cases j with
          | zero => simp at hq; subst hq; rw [hn] at he; cases he rfl
          | succ j =>
            obtain ⟨i, U, U', a, b, c, d⟩ := h6 j q J (by simpa using hq) (by simpa using hJ) hn
            exact ⟨i, U, U', by rw [hx]; simp [a], b, c, by simpa [factsAt, List.append_assoc] using d⟩
/-- how far it has come: the first c of them are done -/
structure Phase (es : List Nat) (Ss : List (World → Prop)) (listed : Array Bool) (w : World) : Prop where
  at_ : ∃ (c : Nat) (T : World → Prop), Ss[c]? = some T ∧ T w ∧ (∀ i j, es[i]? = some j → i < c → listed.getD j false = true) ∧ (∀ i j, es[i]? = some j → c ≤ i → listed.getD j true = false)
theorem wpAny_of_eff {eff anc : List Tmp} {ps : List Planned} {Is : List Pred} {Ss : List (World → Prop)} (hl : Is.length = ps.length) (hplan : planOf ops ops.toList = some ps) (hok : planOk a0.tmps.size ps = true)
    (hch : chained (masks ps []) (effIx eff ps 0) = true) (han : anchored (masks ps []) (effIx eff ps 0) (ancIx eff anc ps 0 0) = true)
    (htr : ∀ a b c, R a b → R b c → R a c) (hrf : ∀ a, R a a) (h0R : ∀ a b, R0 a b → R a b)
    (hS0 : ∀ T ∈ Ss, ∀ w w', T w → R0 w w' → T w') (hSl : Ss.length = (effIx eff ps 0).length + 1)
    (hoP : ∀ (j : Nat) (p : Planned) (I : Pred), ps[j]? = some p → Is[j]? = some I → eff.contains p.d = false → anc.contains p.d = false → OwesP P Q R0 R a0 w0 (factsAt ps Is j) p I)
    (hoA : ∀ (j : Nat) (p : Planned) (I : Pred), ps[j]? = some p → Is[j]? = some I → eff.contains p.d = false → anc.contains p.d = true → ∃ (k : Nat) (T : World → Prop), (j, k) ∈ ancIx eff anc ps 0 0 ∧ Ss[k]? = some T ∧ OwesA P Q R0 R a0 w0 T (factsAt ps Is j) p I)
    (hoE : ∀ (j : Nat) (p : Planned) (I : Pred), ps[j]? = some p → Is[j]? = some I → eff.contains p.d = true → ∃ (i : Nat) (T T' : World → Prop), (effIx eff ps 0)[i]? = some j ∧ Ss[i]? = some T ∧ Ss[i + 1]? = some T' ∧ OwesE P Q R a0 w0 T T' (factsAt ps Is j) p I)
    (hnot : ∀ (i j : Nat) (p : Planned), (effIx eff ps 0)[i]? = some j → ps[j]? = some p → eff.contains p.d = true)
    (hf : ∃ T, Ss[(effIx eff ps 0).length]? = some T ∧ ∀ w, R w0 w → T w → FinV (fun a => Q .normal a w) w ((ps.map (·.d)).zip Is) a0) :
    ∀ (fuel : Nat) (listed : Array Bool) (a : Act) (w : World), Inv R ps Is a0 w0 listed a w → Phase (effIx eff ps 0) Ss listed w → unlisted listed = fuel → wpAny P .any ops Q fuel listed a w := by
  obtain ⟨hlen, hspec⟩ := planOf_spec _ _ hplan
  have hn : ops.size = ps.length := by simp [hlen]
  have hp : ∀ (j : Nat) (p : Planned), ps[j]? = some p → ops[j]? = some p.o := fun j p h => by simpa using (hspec j p h).1
  have hmono : ∀ (j : Nat) (I : Pred), Is[j]? = some I → ∀ v w w', I v w → R w w' → I v w' := fun j I hI => by
    have hjl : j < Is.length := by
      rcases Nat.lt_or_ge j Is.length with h | h
      · exact h
      · rw [List.getElem?_eq_none h] at hI; cases hI
    have hpj : ps[j]? = some (ps[j]'(by omega)) := List.getElem?_eq_getElem (by omega)
    cases he : eff.contains (ps[j]'(by omega)).d with
    | false =>
      cases hac : anc.contains (ps[j]'(by omega)).d with
      | false => exact (hoP j _ I hpj hI he hac).1
      | true => obtain ⟨k, T, _, _, h⟩ := hoA j _ I hpj hI he hac; exact h.1
    | true => obtain ⟨i, T, T', _, _, _, h⟩ := hoE j _ I hpj hI he; exact h.1
  have hdep : ∀ i k, ((masks ps []).getD i 0).testBit k = true → Dep ps i k := masks_sound ps [] [] rfl rfl (fun i k h => by simp at h)
  have hend : ∀ (listed : Array Bool) (a : Act) (w : World), Inv R ps Is a0 w0 listed a w → Phase (effIx eff ps 0) Ss listed w → (∀ j, j < ps.length → listed.getD j false = true) → Q .normal a w := by
    intro listed a w hinv hph hall
    obtain ⟨T, hT, hfin⟩ := hf
    obtain ⟨c, U, hU, hUw, h1, h2⟩ := hph.at_
    have hcl : c < Ss.length := by
      rcases Nat.lt_or_ge c Ss.length with h | h
      · exact h
      · rw [List.getElem?_eq_none h] at hU; cases hU
    have hc : c = (effIx eff ps 0).length := by
      rcases Nat.lt_or_ge c (effIx eff ps 0).length with h | h
      · exfalso
        have h3 : (effIx eff ps 0)[c]? = some (effIx eff ps 0)[c] := List.getElem?_eq_getElem h
        have h4 := h2 c _ h3 (Nat.le_refl _)
        have hlt : (effIx eff ps 0)[c] < listed.size := by
          rcases Nat.lt_or_ge (effIx eff ps 0)[c] listed.size with h | h
          · exact h
          · simp [Array.getElem?_eq_none h] at h4
        rw [getD_true_iff hlt, hall _ (by rw [← hinv.size]; exact hlt)] at h4
        cases h4
      · omega
    subst hc
    rw [hT] at hU; injection hU with hU; subst hU
    exact inv_end (G := fun a => Q .normal a w) hl hok hinv hall (hfin w hinv.world hUw)
  intro fuel
  induction fuel with
  | zero =>
    intro listed a w hinv hph hu
    have hall : ∀ j, j < ps.length → listed.getD j false = true := fun j hj => unlisted_zero hu (by rw [hinv.size]; exact hj)
    refine ⟨?_, hend listed a w hinv hph hall⟩
    rw [List.eq_nil_iff_forall_not_mem]
    intro j hj
    obtain ⟨h0, o, hoj, _⟩ := mem_ready.1 hj
    have hjl : j < ps.length := by
      rw [← hn]
      rcases Nat.lt_or_ge j ops.size with h | h
      · exact h
      · rw [Array.getElem?_eq_none h] at hoj; cases hoj
    rw [getD_true_iff (by rw [hinv.size]; exact hjl), hall j hjl] at h0
    cases h0
  | succ fuel ih =>
    intro listed a w hinv hph hu
    refine ⟨fun hr => ?_, fun j hj => ?_⟩
    · exact hend listed a w hinv hph (all_listed hp (fun j p h => (planOk_spec hok h).2.1) hinv.size hr)
    · obtain ⟨h0, o, hoj, hall⟩ := mem_ready.1 hj
      have hjl : j < ps.length := by
        rw [← hn]
        rcases Nat.lt_or_ge j ops.size with h | h
        · exact h
        · rw [Array.getElem?_eq_none h] at hoj; cases hoj
      have hpj : ps[j]? = some ps[j] := List.getElem?_eq_getElem hjl
      have hIj : Is[j]? = some (Is[j]'(by omega)) := List.getElem?_eq_getElem (by omega)
      have hoj' := hp j _ hpj
      rw [hoj] at hoj'; injection hoj' with hoj'; subst hoj'
      obtain ⟨_, hdst, hg⟩ := hspec j _ hpj
      have hsl : j < listed.size := by rw [hinv.size]; exact hjl
      have hus := unlisted_set h0
      unfold wpOp
      rw [hoj]
      show if Region.wanted ps[j].o (yielded ops a.tmps) = true then _ else _
      rw [wanted_planned hg a]
      cases he : eff.contains ps[j].d with
      | false =>
        have hob : (if wantedS ps[j].g a = true then ps[j].o.wp P a w (fun a' w' => ∃ v, a' = a.put (some ps[j].d) v ∧ R0 w w' ∧ (Is[j]'(by omega)) v w') Q else (Is[j]'(by omega)) undef w) := by
          cases hac : anc.contains ps[j].d with
          | false => exact ((hoP j _ _ hpj hIj he hac).2 a w hinv.world).use (slotF_of_inv hl hok hinv hpj h0 hall)
          | true =>
            obtain ⟨k, T, hmem, hT, hoa⟩ := hoA j _ _ hpj hIj he hac
            refine (hoa.2 a w hinv.world ?_).use (slotF_of_inv hl hok hinv hpj h0 hall)
            have hak := List.all_eq_true.1 han _ hmem
            simp only [Bool.and_eq_true, Bool.or_eq_true, beq_iff_eq] at hak
            obtain ⟨c, U, hU, hUw, h1, h2⟩ := hph.at_
            have hck : c = k := by
              rcases Nat.lt_trichotomy c k with h | h | h
              · exfalso
                rcases hak.1 with h3 | h3
                · omega
                · split at h3
                  · rename_i e hee
                    have h5 := dep_listed hinv.closed (hdep _ _ h3) (fun p hp' e he hb => by rw [hpj] at hp'; injection hp' with hp'; subst hp'; exact hall e he hb)
                    have h6 := h2 (k - 1) e hee (by omega)
                    have hlt : e < listed.size := by
                      rcases Nat.lt_or_ge e listed.size with h | h
                      · exact h
                      · simp [Array.getElem?_eq_none h] at h6
                    rw [getD_true_iff hlt, h5] at h6
                    cases h6
                  · cases h3
              · exact h
              · exfalso
                have hcl : c < Ss.length := by
                  rcases Nat.lt_or_ge c Ss.length with h | h
                  · exact h
                  · rw [List.getElem?_eq_none h] at hU; cases hU
                have hee : (effIx eff ps 0)[k]? = some (effIx eff ps 0)[k] := List.getElem?_eq_getElem (by omega)
                have h3 := hak.2
                rw [hee] at h3
                have h6 := h1 k _ hee h
                have hlt : (effIx eff ps 0)[k] < listed.size := by
                  rcases Nat.lt_or_ge (effIx eff ps 0)[k] listed.size with h | h
                  · exact h
                  · simp [Array.getD, Nat.not_lt.2 h] at h6
                have h7 := dep_listed hinv.closed (hdep _ _ h3) (fun p hp' e he hb => hinv.closed _ p hp' (by rw [getD_true_iff hlt]; exact h6) e he hb)
                rw [getD_true_iff hsl, h7] at h0
                cases h0
            subst hck
            rw [hT] at hU; injection hU with hU; subst hU
            exact hUw
        have hkeep : ∀ w', R0 w w' → Phase (effIx eff ps 0) Ss (listed.setIfInBounds j true) w' := by
          intro w' hR
          obtain ⟨c, T, hT, hTw, h1, h2⟩ := hph.at_
          refine ⟨c, T, hT, hS0 T (List.mem_of_getElem? hT) _ _ hTw hR, fun i k hk hi => getD_set_true (h1 i k hk hi), fun i k hk hi => ?_⟩
          rw [getD_set_ne true]
          · exact h2 i k hk hi
          · rintro rfl
            have := hnot i j _ hk hpj
            rw [he] at this; cases this
        split
        · rename_i hw
          rw [if_pos hw] at hob
          refine .inl (Oper.wp_mono (fun a' w' hk => ?_) hob)
          obtain ⟨v, rfl, hR, hv⟩ := hk
          exact ih _ _ _ (inv_step hok htr hmono hinv hpj hIj h0 hall (h0R _ _ hR) hv) (hkeep w' hR) (by omega)
        · rename_i hw
          rw [if_neg hw] at hob
          rw [hdst]
          refine ih _ _ _ (inv_step hok htr hmono hinv hpj hIj h0 hall (hrf w) hob) ?_ (by omega)
          obtain ⟨c, T, hT, hTw, h1, h2⟩ := hph.at_
          refine ⟨c, T, hT, hTw, fun i k hk hi => getD_set_true (h1 i k hk hi), fun i k hk hi => ?_⟩
          rw [getD_set_ne true]
          · exact h2 i k hk hi
          · rintro rfl
            have := hnot i j _ hk hpj
            rw [he] at this; cases this
      | true =>
        obtain ⟨i, T, T', hi, hT, hT', hoe⟩ := hoE j _ _ hpj hIj he
        obtain ⟨c, U, hU, hUw, h1, h2⟩ := hph.at_
        have hci : c = i := by
          rcases Nat.lt_trichotomy c i with h | h | h
          · exfalso
            -- the one before it is listed
            obtain ⟨i', rfl⟩ : ∃ i', i = i' + 1 := ⟨i - 1, by omega⟩
            have hil : i' < (effIx eff ps 0).length := by
              rcases Nat.lt_or_ge i' (effIx eff ps 0).length with h | h
              · exact h
              · rw [List.getElem?_eq_none (by omega)] at hi; cases hi
            have h3 : (effIx eff ps 0)[i']? = some (effIx eff ps 0)[i'] := List.getElem?_eq_getElem hil
            have h4 := (chained_at _ hch i' _ j h3 hi).1
            have h5 := dep_listed hinv.closed (hdep _ _ h4) (fun p hp' e he hb => by rw [hpj] at hp'; injection hp' with hp'; subst hp'; exact hall e he hb)
            have h6 := h2 i' _ h3 (by omega)
            have hlt : (effIx eff ps 0)[i'] < listed.size := by
              rcases Nat.lt_or_ge (effIx eff ps 0)[i'] listed.size with h | h
              · exact h
              · simp [Array.getElem?_eq_none h] at h6
            rw [getD_true_iff hlt, h5] at h6
            cases h6
          · exact h
          · exfalso
            have := h1 i j hi h
            rw [getD_true_iff hsl, this] at h0
            cases h0
        subst hci
        rw [hT] at hU; injection hU with hU; subst hU
        have hob := (hoe.2 a w hinv.world hUw).use (slotF_of_inv hl hok hinv hpj h0 hall)
        have hkeep : ∀ w', T' w' → Phase (effIx eff ps 0) Ss (listed.setIfInBounds j true) w' := by
          intro w' hw'
          refine ⟨c + 1, T', hT', hw', fun x k hk hx => ?_, fun x k hk hx => ?_⟩
          · by_cases hxc : x = c
            · subst hxc
              rw [hi] at hk; injection hk with hk; subst hk
              simp [Array.getD, hsl]
            · exact getD_set_true (h1 x k hk (by omega))
          · rw [getD_set_ne true]
            · exact h2 x k hk (by omega)
            · intro e
              have hlt : j < k := chained_lt hch c (x - c - 1) hi (by rw [show c + (x - c - 1) + 1 = x by omega]; exact hk)
              omega
        split
        · rename_i hw
          rw [if_pos hw] at hob
          refine .inl (Oper.wp_mono (fun a' w' hk => ?_) hob)
          obtain ⟨v, rfl, hR, hS', hv⟩ := hk
          exact ih _ _ _ (inv_step hok htr hmono hinv hpj hIj h0 hall hR hv) (hkeep w' hS') (by omega)
        · rename_i hw
          rw [if_neg hw] at hob
          rw [hdst]
          exact ih _ _ _ (inv_step hok htr hmono hinv hpj hIj h0 hall (hrf w) hob.2) (hkeep w hob.1) (by omega)
theorem effIx_spec (eff : List Tmp) : ∀ (l : List Planned) (i j : Nat) (p : Planned), (effIx eff l 0)[i]? = some j → l[j]? = some p → eff.contains p.d = true
  | [], i, j, p, h, _ => by simp [effIx] at h
  | q :: l, i, j, p, h, hp => by
    unfold effIx at h
    split at h
    · rename_i he
      cases i with
      | zero => simp at h; subst h; simp at hp; subst hp; exact he
      | succ i =>
        rw [List.getElem?_cons_succ, effIx_shift, List.getElem?_map, Option.map_eq_some_iff] at h
        obtain ⟨k, hk, rfl⟩ := h
        exact effIx_spec eff l i k p hk (by simpa using hp)
    · rw [effIx_shift, List.getElem?_map, Option.map_eq_some_iff] at h
      obtain ⟨k, hk, rfl⟩ := h
      exact effIx_spec eff l i k p hk (by simpa using hp)
/-- **ONE WALK IN THE ORDER OF THE TEXT SERVES EVERY ORDER, where what changes the world stands in a chain.** -/
theorem wp_region_eff {id : Nat} {a : Act} {w : World} {ps : List Planned} (eff anc : List Tmp) (R0 R : World → World → Prop) (S : World → Prop) (hm : P.follows .mixedOrders = true)
    (hplan : planOf ops ops.toList = some ps) {n : Nat} (hn : a.tmps.size = n) (hok : planOk n ps = true) (hch : chained (masks ps []) (effIx eff ps 0) = true) (han : anchored (masks ps []) (effIx eff ps 0) (ancIx eff anc ps 0 0) = true)
    (htr : ∀ a b c, R a b → R b c → R a c) (hrf : ∀ a, R a a) (h0R : ∀ a b, R0 a b → R a b) (hdr : R0 w w.drew) (hS0 : ∀ w w', S w → R0 w w' → S w') (hS : S w)
    (h : wpE P Q R0 R a w eff anc S ps []) : (Code.region id ops true).wp P Q a w := by
  subst hn
  refine wp_region_any hm ?_
  obtain ⟨Is, Ss, h1, h2, h3, h4, h5, h5a, h6, T, h7, h8⟩ := wpE_parts _ _ _ hS0 h
  have hlen : ops.size = ps.length := by simpa using ((planOf_spec _ _ hplan).1).symm
  refine wpAny_of_eff (eff := eff) (anc := anc) h1 hplan hok hch han htr hrf h0R h4 h2 (fun j p I hp hI he ha => by simpa using h5 j p I hp hI he ha) (fun j p I hp hI he ha => by simpa using h5a j p I hp hI he ha) (fun j p I hp hI he => by simpa using h6 j p I hp hI he) (effIx_spec eff ps) ⟨T, h7, fun w' hw' hT => by simpa using h8 w' hw' hT⟩ _ _ _ _ ?_ ?_ ?_
  · refine ⟨by simp [hlen], h0R _ _ hdr, rfl, rfl, ?_, ?_, fun t _ => rfl⟩
    · intro j p hp hj
      have hjl : j < ops.size := by
        rw [hlen]
        rcases Nat.lt_or_ge j ps.length with h | h
        · exact h
        · rw [List.getElem?_eq_none h] at hp; cases hp
      simp [Array.getD, hjl] at hj
    · intro j p I hp hI hj
      have hjl : j < ops.size := by
        rw [hlen]
        rcases Nat.lt_or_ge j ps.length with h | h
        · exact h
        · rw [List.getElem?_eq_none h] at hp; cases hp
      simp [Array.getD, hjl] at hj
  · refine ⟨0, S, h3, hS0 _ _ hS hdr, fun i j _ hi => by omega, fun i j hi _ => ?_⟩
    have hjl : j < ops.size := by
      rw [hlen]
      have : j ∈ effIx eff ps 0 := List.mem_of_getElem? hi
      have hlt : ∀ (l : List Planned) (n : Nat), ∀ x ∈ effIx eff l n, x < n + l.length := by
        intro l
        induction l with
        | nil => intro n x hx; simp [effIx] at hx
        | cons q l ih =>
          intro n x hx
          unfold effIx at hx
          split at hx
          · rcases List.mem_cons.1 hx with rfl | hx
            · simp
            · have := ih _ _ hx; simp; omega
          · have := ih _ _ hx; simp; omega
      simpa using hlt ps 0 j this
    simp [Array.getD, hjl]
  · simp [unlisted, List.countP_replicate, hlen]
variable {S : World → Prop} {eff anc : List Tmp} {rest : List Planned} {fs : List (Tmp × Pred)} {d e t : Tmp} {o : Oper} {g : GuardS} {b : Bool}
theorem wpE_pure (he : eff.contains d = false) (ha : anc.contains d = false) (I : Pred) (h : OwesP P Q R0 R a0 w0 fs ⟨d, o, g⟩ I) (hr : wpE P Q R0 R a0 w0 eff anc S rest ((d, I) :: fs)) : wpE P Q R0 R a0 w0 eff anc S (⟨d, o, g⟩ :: rest) fs := by
  unfold wpE
  rw [if_neg (by rw [he]; simp), if_neg (by rw [ha]; simp)]
  exact ⟨I, h, hr⟩
theorem looks_run {G : Prop} {a : Act} {w : World} {M : Act → World → Prop} (hg : Runs fs g) (k : LooksF fs a0 a w (opTmps o) (o.wp P a w M Q)) :
    LooksF fs a0 a w (Planned.looks ⟨d, o, g⟩) (if wantedS g a = true then o.wp P a w M Q else G) := by
  refine looksF_append _ _ (looksF_mono (fun k => ?_) _ k)
  cases g with
  | none => exact (if_pos (c := wantedS none a = true) rfl).mpr k
  | some eb =>
    obtain ⟨e, b⟩ := eb
    show SlotF fs a0 a w e → _
    intro hs
    unfold SlotF at hs
    unfold Runs at hg
    rw [show fs.find? (fun f => f.1 == e) = _ from hg] at hs
    have hs : a.tmps.getD e undef = .bool b := hs
    refine (if_pos (c := wantedS (some (e, b)) a = true) ?_).mpr k
    simp only [wantedS, hs, beq_self_eq_true]
theorem looks_skip {G M : Prop} {a : Act} {w : World} (hg : fs.find? (fun f => f.1 == e) = some (e, fun v _ => v = .bool (!b)) ∨ fs.find? (fun f => f.1 == e) = some (e, fun v _ => v = undef)) (k : G) :
    LooksF fs a0 a w (Planned.looks ⟨d, o, some (e, b)⟩) (if wantedS (some (e, b)) a = true then M else G) := by
  refine looksF_append _ _ ?_
  have : LooksF fs a0 a w [e] (if wantedS (some (e, b)) a = true then M else G) := by
    show SlotF fs a0 a w e → _
    intro hs
    unfold SlotF at hs
    refine (if_neg (c := wantedS (some (e, b)) a = true) ?_).mpr k
    rcases hg with hg | hg
    · rw [show fs.find? (fun f => f.1 == e) = _ from hg] at hs
      have hs : a.tmps.getD e undef = .bool (!b) := hs
      simp [wantedS, hs]
    · rw [show fs.find? (fun f => f.1 == e) = _ from hg] at hs
      have hs : a.tmps.getD e undef = undef := hs
      unfold wantedS
      simp only [hs]
      simp [undef]
  generalize opTmps o = ts
  induction ts with
  | nil => exact this
  | cons t ts ih => exact fun _ => ih
/-- 'wpE', shut -/
def wpY (P : Program) (Q : Exit → Act → World → Prop) (R0 R : World → World → Prop) (a0 : Act) (w0 : World) (eff anc : List Tmp) (S : World → Prop) (l : List Planned) (fs : List (Tmp × Pred)) : Prop := wpE P Q R0 R a0 w0 eff anc S l fs
theorem wpY_done (h : ∀ w, R w0 w → S w → FinV (fun a => Q .normal a w) w fs.reverse a0) : wpY P Q R0 R a0 w0 eff anc S [] fs := h
theorem wpY_val (he : eff.contains d = false) (ha : anc.contains d = false) (hg : Runs fs g) (hrf : ∀ w, R0 w w) (hd : o.dst = some d)
    (hX : ∃ X : Value, (∀ (a : Act) (w : World), R w0 w → LooksF fs a0 a w (opTmps o) ((execOp a.eval o).run P w = .ok (.value X) w)) ∧
      wpY P Q R0 R a0 w0 eff anc S rest ((d, fun v _ => v = X) :: fs)) : wpY P Q R0 R a0 w0 eff anc S (⟨d, o, g⟩ :: rest) fs := by
  obtain ⟨X, h, hr⟩ := hX
  refine wpE_pure he ha _ ⟨fun v w w' h _ => h, fun a w hR => looks_run hg (looksF_mono (fun k => ?_) _ (h a w hR))⟩ hr
  simp only [Oper.wp, k, Oper.upon, hd]
  exact ⟨X, rfl, hrf w, rfl⟩
theorem wpY_move {I : Pred} (he : eff.contains d = false) (ha : anc.contains d = false) (hg : Runs fs g) (hrf : ∀ w, R0 w w) (ho : o.op = .move (.tmp t)) (hd : o.dst = some d) (hf : (fs.find? (fun f => f.1 == t)) = some (t, I)) (hm : ∀ v w w', I v w → R w w' → I v w')
    (hr : wpY P Q R0 R a0 w0 eff anc S rest ((d, I) :: fs)) : wpY P Q R0 R a0 w0 eff anc S (⟨d, o, g⟩ :: rest) fs := by
  refine wpE_pure he ha _ ⟨hm, fun a w _ => looks_run hg ?_⟩ hr
  simp only [opTmps, ho, Op.operands]
  show SlotF fs a0 a w t → _
  intro hs
  unfold SlotF at hs
  rw [hf] at hs
  show Oper.wp P o a w _ Q
  simp only [Oper.wp, execOp, ho]
  exact ⟨a.tmps.getD t undef, by rw [hd]; rfl, hrf w, hs⟩
theorem wpY_move0 (he : eff.contains d = false) (ha : anc.contains d = false) (hg : Runs fs g) (hrf : ∀ w, R0 w w) (ho : o.op = .move (.tmp t)) (hd : o.dst = some d) (hf : (fs.find? (fun f => f.1 == t)) = none)
    (hX : ∃ X : Value, a0.tmps.getD t undef = X ∧ wpY P Q R0 R a0 w0 eff anc S rest ((d, fun v _ => v = X) :: fs)) : wpY P Q R0 R a0 w0 eff anc S (⟨d, o, g⟩ :: rest) fs := by
  obtain ⟨X, hX, hr⟩ := hX
  refine wpE_pure he ha _ ⟨fun _ _ _ h _ => h, fun a w _ => looks_run hg ?_⟩ hr
  simp only [opTmps, ho, Op.operands]
  show SlotF fs a0 a w t → _
  intro hs
  unfold SlotF at hs
  rw [hf] at hs
  have hs : a.tmps.getD t undef = a0.tmps.getD t undef := hs
  show Oper.wp P o a w _ Q
  simp only [Oper.wp, execOp, ho]
  exact ⟨a.tmps.getD t undef, by rw [hd]; rfl, hrf w, hs.trans hX⟩
theorem wpY_skip (he : eff.contains d = false) (ha : anc.contains d = false) (hg : fs.find? (fun f => f.1 == e) = some (e, fun v _ => v = .bool (!b)) ∨ fs.find? (fun f => f.1 == e) = some (e, fun v _ => v = undef))
    (hr : wpY P Q R0 R a0 w0 eff anc S rest ((d, fun v _ => v = undef) :: fs)) : wpY P Q R0 R a0 w0 eff anc S (⟨d, o, some (e, b)⟩ :: rest) fs :=
  wpE_pure he ha _ ⟨fun _ _ _ h _ => h, fun _ _ _ => looks_skip hg rfl⟩ hr
/-- a call that makes memory, at most -/
theorem wpY_call (I : Pred) (he : eff.contains d = false) (ha : anc.contains d = false) (hg : Runs fs g) (hd : o.dst = some d) (hm : ∀ v w w', I v w → R w w' → I v w')
    (h : ∀ (a : Act) (w : World), R w0 w → LooksF fs a0 a w (opTmps o) (∀ K : Act → World → Prop, (∀ v w', R0 w w' → I v w' → K (a.put o.dst v) w') → o.wp P a w K Q))
    (hr : wpY P Q R0 R a0 w0 eff anc S rest ((d, I) :: fs)) : wpY P Q R0 R a0 w0 eff anc S (⟨d, o, g⟩ :: rest) fs :=
  wpE_pure he ha _ ⟨hm, fun a w hR => looks_run hg (looksF_mono (fun k => k _ fun v w' hR hI => ⟨v, by rw [hd], hR, hI⟩) _ (h a w hR))⟩ hr
theorem wp_regionY {id : Nat} {a : Act} {w : World} {ps : List Planned} (eff anc : List Tmp) (R0 R : World → World → Prop) (S : World → Prop) (hm : P.follows .mixedOrders = true)
    (hplan : planOf ops ops.toList = some ps) {n : Nat} (hn : a.tmps.size = n) (hok : planOk n ps = true) (hch : chained (masks ps []) (effIx eff ps 0) = true) (han : anchored (masks ps []) (effIx eff ps 0) (ancIx eff anc ps 0 0) = true)
    (htr : ∀ a b c, R a b → R b c → R a c) (hrf : ∀ a, R a a) (h0R : ∀ a b, R0 a b → R a b) (hdr : R0 w w.drew) (hS0 : ∀ w w', S w → R0 w w' → S w') (hS : S w)
    (h : wpY P Q R0 R a w eff anc S ps []) : (Code.region id ops true).wp P Q a w :=
  wp_region_eff eff anc R0 R S hm hplan hn hok hch han htr hrf h0R hdr hS0 hS h
end
theorem runs0 {fs : List (Tmp × Pred)} : Runs fs none := runs_none
theorem runs1 {fs : List (Tmp × Pred)} {e : Tmp} {b : Bool} (h : fs.find? (fun f => f.1 == e) = some (e, fun v _ => v = .bool b)) : Runs fs (some (e, b)) := runs_some h
attribute [irreducible] wpY
end Go.Ox
namespace Go.Ox
open Go.RowKit
section
variable {P : Program} {ops : Array Oper} {Q : Exit → Act → World → Prop}
/-- behind the head, the tail -/
def thenTail (P : Program) (ops : Array Oper) (n : Nat) (Q : Exit → Act → World → Prop) : Exit → Act → World → Prop
  | .normal, a, w => wpList P ops Q (ops.toList.drop n) a w
  | e, a, w => Q e a w
theorem thenTail_outs {n : Nat} (h : LetsOut (thenTail P ops n Q)) : LetsOut Q := h
theorem wp_exits {o : Oper} {a : Act} {w : World} {K : Act → World → Prop} {n : Nat} (h : o.wp P a w K (thenTail P ops n Q)) : o.wp P a w K Q := by
  unfold Oper.wp at *
  generalize (execOp a.eval o).run P w = r at *
  cases r with
  | ok m w' =>
    cases m <;> simp only [Oper.upon] at h ⊢ <;>
      first
        | exact h
        | exact Calls.mono h (fun e w'' he => by cases e <;> exact he)
  | halt x w' => cases x <;> simp only [Oper.upon] at h ⊢ <;> exact h
def guardsIn (ops : Array Oper) (n : Nat) : Bool := (List.range n).all fun j => match (ops[j]?).bind (·.guard) with | none => true | some (k, _) => decide (k < n)
def edgesBack (ops : Array Oper) (n : Nat) : Bool := (List.range n).all fun j => match ops[j]? with | none => true | some o => o.after.all fun e => !Region.binds .any e || decide (e.on < j)
theorem edgesBack_at {n j : Nat} {o : Oper} (h : edgesBack ops n = true) (hj : j < n) (ho : ops[j]? = some o) : ∀ e ∈ o.after, Region.binds .any e = true → e.on < j := by
  have h1 := List.all_eq_true.1 h j (List.mem_range.2 hj)
  simp only [ho] at h1
  intro e he hb
  have h2 := Array.all_eq_true_iff_forall_mem.1 h1 e he
  simpa [hb] using h2
theorem head_at {n j : Nat} (hn : n < ops.size) (hj : j < n) : (ops.extract 0 n)[j]? = ops[j]? := by
  rw [Array.getElem?_extract]
  simp only [Nat.zero_add]
  rw [if_pos (by omega)]
theorem head_size {n : Nat} (hn : n < ops.size) : (ops.extract 0 n).size = n := by simp; omega
theorem yielded_head {n k : Nat} (hn : n < ops.size) (hk : k < n) (ts : Array Value) : yielded (ops.extract 0 n) ts k = yielded ops ts k := by
  unfold yielded
  rw [head_at hn hk]
theorem wanted_head {n j : Nat} {o : Oper} (hn : n < ops.size) (hg : guardsIn ops n = true) (hj : j < n) (ho : ops[j]? = some o) (ts : Array Value) :
    Region.wanted o (yielded (ops.extract 0 n) ts) = Region.wanted o (yielded ops ts) := by
  have h1 := List.all_eq_true.1 hg j (List.mem_range.2 hj)
  simp only [ho, Option.bind_some] at h1
  unfold Region.wanted
  cases hgd : o.guard with
  | none => rfl
  | some kb =>
    obtain ⟨k, b⟩ := kb
    rw [hgd] at h1
    have hk : k < n := by simpa using h1
    simp only [yielded_head hn hk]
theorem unlisted_pos {listed : Array Bool} {f : Nat} (h : unlisted listed = f + 1) : ∃ j, j < listed.size ∧ listed.getD j true = false := by
  apply Classical.byContradiction
  intro hno
  have h0 : unlisted listed = 0 := by
    unfold unlisted
    rw [List.countP_eq_zero]
    intro b hb
    obtain ⟨j, hj, rfl⟩ := List.getElem_of_mem hb
    have hj' : j < listed.size := by simpa using hj
    cases hl : listed.getD j true with
    | false => exact absurd ⟨j, hj', hl⟩ hno
    | true =>
      have : listed[j] = true := by simpa [Array.getD, hj'] using hl
      simp [this]
  omega
theorem wpAny_tail {n : Nat} (hn : n < ops.size) (hs : Region.sinkB .any ops n = true) (hc : Region.chainB .any ops n = true) (hg : guardsIn ops n = true) (hb : edgesBack ops n = true)
    (hq : Region.seqB .any ops (ops.size - n) n (Array.replicate n true ++ Array.replicate (ops.size - n) false) = true) :
    ∀ (f : Nat) (listedH listed : Array Bool) (a : Act) (w : World), HeadInv .any ops n listed → listedH.size = n → (∀ j, j < n → listed.getD j true = listedH.getD j true) → unlisted listedH = f →
      wpAny P .any (ops.extract 0 n) (thenTail P ops n Q) f listedH a w → wpAny P .any ops Q (f + (ops.size - n)) listed a w := by
  intro f
  induction f with
  | zero =>
    intro listedH listed a w inv hsz hag hu h
    have hl : listed = Array.replicate n true ++ Array.replicate (ops.size - n) false := by
      apply Array.ext
      · rw [inv.size]; simp; omega
      · intro j h1 h2
        rcases Nat.lt_or_ge j n with hj | hj
        · have h3 := unlisted_zero hu (j := j) (by omega)
          have h4 := hag j hj
          rw [getD_true_iff (by omega : j < listedH.size), h3] at h4
          have h5 : listed[j] = true := by simpa [Array.getD, h1] using h4
          rw [h5, Array.getElem_append_left (by simpa using hj)]
          simp
        · have h4 := inv.tail j hj (by rw [← inv.size]; exact h1)
          have h5 : listed[j] = false := by simpa [Array.getD, h1] using h4
          rw [h5, Array.getElem_append_right (by simpa using hj)]
          simp
    have hd : (ops.toList.drop n).length = ops.size - n := by simp
    have h9 := wpAny_of_seq (P := P) (md := .any) (Q' := Q) (ops := ops) (ops.toList.drop n) n listed a w (fun j => by simp [List.getElem?_drop]) (by rw [hd, hl]; exact hq) h.2
    rw [hd] at h9
    rw [Nat.zero_add]
    exact h9
  | succ f ih =>
    intro listedH listed a w inv hsz hag hu h
    obtain ⟨j0, hj0, hun⟩ := unlisted_pos hu
    have hj0n : j0 < n := by omega
    have hls := inv.size
    have hag2 : ∀ j, j < n → listed.getD j false = listedH.getD j false := fun j hj => by
      have := hag j hj
      rwa [getD_true_iff (by omega), getD_true_iff (by omega)] at this
    have hready : ∀ j, j < n → j ∈ Region.ready .any ops listed → j ∈ Region.ready .any (ops.extract 0 n) listedH := fun j hj hr => by
      obtain ⟨h1, o, ho, h2⟩ := mem_ready.1 hr
      refine mem_ready.2 ⟨by rw [← hag j hj]; exact h1, o, by rw [head_at hn hj]; exact ho, fun e he hbe => ?_⟩
      have := edgesBack_at hb hj ho e he hbe
      rw [← hag2 _ (by omega)]
      exact h2 e he hbe
    rw [show f + 1 + (ops.size - n) = (f + (ops.size - n)) + 1 by omega]
    refine ⟨fun h0 => ?_, fun i hi => ?_⟩
    · exfalso
      have hall : ∀ j, j < n → listed.getD j false = true := by
        intro j
        induction j using Nat.strongRecOn with
        | ind j ihj =>
          intro hj
          cases hl : listed.getD j true with
          | true => rwa [getD_true_iff (by omega)] at hl
          | false =>
            exfalso
            have ho : ops[j]? = some (ops[j]'(by omega)) := Array.getElem?_eq_getElem (by omega)
            have : j ∈ Region.ready .any ops listed := mem_ready.2 ⟨hl, _, ho, fun e he hbe => by
              have := edgesBack_at hb hj ho e he hbe
              exact ihj e.on this (by omega)⟩
            rw [h0] at this
            cases this
      have h1 := hall j0 hj0n
      rw [← hag j0 hj0n, getD_true_iff (by omega), h1] at hun
      cases hun
    · have hin : i < n := by
        rcases Nat.lt_or_ge i n with h1 | h1
        · exact h1
        · exact absurd hi (tail_waits hs hc hn inv _ j0 rfl hj0n (by rw [hag j0 hj0n]; exact hun) i h1)
      have hiH := hready i hin hi
      obtain ⟨hiu, o, ho, _⟩ := mem_ready.1 hi
      have hk := h.2 i hiH
      unfold wpOp at hk ⊢
      rw [head_at hn hin] at hk
      simp only [ho] at hk ⊢
      rw [wanted_head hn hg hin ho] at hk
      have hstep : ∀ (a' : Act) (w' : World), wpAny P .any (ops.extract 0 n) (thenTail P ops n Q) f (listedH.setIfInBounds i true) a' w' → wpAny P .any ops Q (f + (ops.size - n)) (listed.setIfInBounds i true) a' w' := fun a' w' h' => by
        refine ih _ _ a' w' (inv.set hi hin) (by simpa using hsz) (fun j hj => ?_) ?_ h'
        · by_cases hij : i = j
          · subst hij
            rw [getD_true_iff (by simp; omega), getD_true_iff (by simp; omega)]
            simp [Array.getD, hls, hsz, hin, show i < ops.size by omega]
          · rw [getD_set_ne true hij, getD_set_ne true hij]
            exact hag j hj
        · have := unlisted_set (listed := listedH) (j := i) (by rw [← hag i hin]; exact hiu)
          omega
      split
      · rename_i hw
        rw [if_pos hw] at hk
        exact hk.imp (fun h1 => Oper.wp_mono hstep (wp_exits h1)) (fun h1 => ⟨h1.1, thenTail_outs h1.2⟩)
      · rename_i hw
        rw [if_neg hw] at hk
        exact hstep _ _ hk
end
section
variable {P : Program} {ops : Array Oper} {Q : Exit → Act → World → Prop} {R0 R : World → World → Prop} {a0 : Act} {w0 : World}
unseal wpY in
theorem wpY_open {eff anc : List Tmp} {S : World → Prop} {l : List Planned} {fs : List (Tmp × Pred)} (h : wpY P Q R0 R a0 w0 eff anc S l fs) : wpE P Q R0 R a0 w0 eff anc S l fs := h
/-- the same as wp_region_eff, a step earlier -/
theorem wpAny_region_eff {a : Act} {w : World} {ps : List Planned} (eff anc : List Tmp) (R0 R : World → World → Prop) (S : World → Prop) 
    (hplan : planOf ops ops.toList = some ps) {n : Nat} (hn : a.tmps.size = n) (hok : planOk n ps = true) (hch : chained (masks ps []) (effIx eff ps 0) = true) (han : anchored (masks ps []) (effIx eff ps 0) (ancIx eff anc ps 0 0) = true)
    (htr : ∀ a b c, R a b → R b c → R a c) (hrf : ∀ a, R a a) (h0R : ∀ a b, R0 a b → R a b) (hdr : R0 w w.drew) (hS0 : ∀ w w', S w → R0 w w' → S w') (hS : S w)
    (h : wpE P Q R0 R a w eff anc S ps []) : wpAny P .any ops Q ops.size (Array.replicate ops.size false) a w.drew := by
  subst hn
  obtain ⟨Is, Ss, h1, h2, h3, h4, h5, h5a, h6, T, h7, h8⟩ := wpE_parts _ _ _ hS0 h
  have hlen : ops.size = ps.length := by simpa using ((planOf_spec _ _ hplan).1).symm
  refine wpAny_of_eff (eff := eff) (anc := anc) h1 hplan hok hch han htr hrf h0R h4 h2 (fun j p I hp hI he ha => by simpa using h5 j p I hp hI he ha) (fun j p I hp hI he ha => by simpa using h5a j p I hp hI he ha) (fun j p I hp hI he => by simpa using h6 j p I hp hI he) (effIx_spec eff ps) ⟨T, h7, fun w' hw' hT => by simpa using h8 w' hw' hT⟩ _ _ _ _ ?_ ?_ ?_
  · refine ⟨by simp [hlen], h0R _ _ hdr, rfl, rfl, ?_, ?_, fun t _ => rfl⟩
    · intro j p hp hj
      have hjl : j < ops.size := by
        rw [hlen]
        rcases Nat.lt_or_ge j ps.length with h | h
        · exact h
        · rw [List.getElem?_eq_none h] at hp; cases hp
      simp [Array.getD, hjl] at hj
    · intro j p I hp hI hj
      have hjl : j < ops.size := by
        rw [hlen]
        rcases Nat.lt_or_ge j ps.length with h | h
        · exact h
        · rw [List.getElem?_eq_none h] at hp; cases hp
      simp [Array.getD, hjl] at hj
  · refine ⟨0, S, h3, hS0 _ _ hS hdr, fun i j _ hi => by omega, fun i j hi _ => ?_⟩
    have hjl : j < ops.size := by
      rw [hlen]
      have : j ∈ effIx eff ps 0 := List.mem_of_getElem? hi
      have hlt : ∀ (l : List Planned) (n : Nat), ∀ x ∈ effIx eff l n, x < n + l.length := by
        intro l
        induction l with
        | nil => intro n x hx; simp [effIx] at hx
        | cons q l ih =>
          intro n x hx
          unfold effIx at hx
          split at hx
          · rcases List.mem_cons.1 hx with rfl | hx
            · simp
            · have := ih _ _ hx; simp; omega
          · have := ih _ _ hx; simp; omega
      simpa using hlt ps 0 j this
    simp [Array.getD, hjl]
  · simp [unlisted, List.countP_replicate, hlen]
/-- **A DRAWN HEAD, A FORCED TAIL** -/
theorem wp_region_tailY {id : Nat} {a : Act} {w : World} {ps : List Planned} (k : Nat) (eff anc : List Tmp) (R0 R : World → World → Prop) (S : World → Prop) (hm : P.follows .mixedOrders = true)
    (hn0 : decide (k < ops.size) = true) (hs : Region.sinkB .any ops k = true) (hc : Region.chainB .any ops k = true) (hg : guardsIn ops k = true) (hb : edgesBack ops k = true)
    (hq : Region.seqB .any ops (ops.size - k) k (Array.replicate k true ++ Array.replicate (ops.size - k) false) = true)
    (hplan : planOf (ops.extract 0 k) (ops.extract 0 k).toList = some ps) {n : Nat} (hn : a.tmps.size = n) (hok : planOk n ps = true) (hch : chained (masks ps []) (effIx eff ps 0) = true) (han : anchored (masks ps []) (effIx eff ps 0) (ancIx eff anc ps 0 0) = true)
    (htr : ∀ a b c, R a b → R b c → R a c) (hrf : ∀ a, R a a) (h0R : ∀ a b, R0 a b → R a b) (hdr : R0 w w.drew) (hS0 : ∀ w w', S w → R0 w w' → S w') (hS : S w)
    (h : wpY P (thenTail P ops k Q) R0 R a w eff anc S ps []) : (Code.region id ops true).wp P Q a w := by
  refine wp_region_any hm ?_
  have hk : k < ops.size := of_decide_eq_true hn0
  have h1 := wpAny_region_eff eff anc R0 R S hplan hn hok hch han htr hrf h0R hdr hS0 hS (wpY_open h)
  rw [head_size hk] at h1
  have inv0 : HeadInv .any ops k (Array.replicate ops.size false) :=
    ⟨by simp, fun j oj _ hl => (by rw [getD_replicate_false] at hl; cases hl), fun t _ ht => getD_in (by simpa using ht) (getD_replicate_false _ _)⟩
  have h2 := wpAny_tail hk hs hc hg hb hq k (Array.replicate k false) (Array.replicate ops.size false) a w.drew inv0 (by simp) (fun j hj => by
    rw [getD_in (by simp; omega) (getD_replicate_false _ _), getD_in (by simpa using hj) (getD_replicate_false _ _)]) (by simp [unlisted, List.countP_replicate]) h1
  rw [show k + (ops.size - k) = ops.size by omega] at h2
  exact h2
end
end Go.Ox
namespace Go.Ox
open Go.RowKit
section
variable {P : Program} {ops : Array Oper} {Q : Exit → Act → World → Prop} {R : World → World → Prop} {a0 : Act} {w0 : World} {J : Act → World → Prop}
end
end Go.Ox
set_option linter.unusedVariables false
set_option linter.unusedSimpArgs false
namespace Go.Ox
open Go.RowKit
theorem ya {G G' : Prop} (k : G') (h : G' → G := by
    intro k
    repeat (first
      | (refine wpY_move0 rfl rfl (by first | exact runs0 | exact runs1 rfl) (by first | exact Ext.refl | exact GrownW.refl | exact (ExtC.refl _)) rfl rfl rfl ?_; apply Exists.intro; refine ⟨?_, ?_⟩; · (go_simp; rfl))
      | (refine wpY_move rfl rfl (by first | exact runs0 | exact runs1 rfl) (by first | exact Ext.refl | exact GrownW.refl | exact (ExtC.refl _)) rfl rfl rfl (fun _ _ _ h _ => h) ?_)
      | (refine wpY_val rfl rfl (by first | exact runs0 | exact runs1 rfl) (by first | exact Ext.refl | exact GrownW.refl | exact (ExtC.refl _)) rfl ?_; apply Exists.intro; refine ⟨?_, ?_⟩; · (intro a w' hR; (try (intro h1; try have e1 : _ = _ := h1)); (try (intro h2; try have e2 : _ = _ := h2)); (try (intro h3; try have e3 : _ = _ := h3)); go_simp; rfl))
      | (refine wpY_skip rfl rfl (by first | exact .inl rfl | exact .inr rfl) ?_))
    exact k) : G := h k
theorem ya1 {G G' : Prop} (k : G') (h : G' → G := by
    intro k
    (first
      | (refine wpY_move0 rfl rfl (by first | exact runs0 | exact runs1 rfl) (by first | exact Ext.refl | exact GrownW.refl | exact (ExtC.refl _)) rfl rfl rfl ?_; apply Exists.intro; refine ⟨?_, ?_⟩; · (go_simp; rfl))
      | (refine wpY_move rfl rfl (by first | exact runs0 | exact runs1 rfl) (by first | exact Ext.refl | exact GrownW.refl | exact (ExtC.refl _)) rfl rfl rfl (fun _ _ _ h _ => h) ?_)
      | (refine wpY_val rfl rfl (by first | exact runs0 | exact runs1 rfl) (by first | exact Ext.refl | exact GrownW.refl | exact (ExtC.refl _)) rfl ?_; apply Exists.intro; refine ⟨?_, ?_⟩; · (intro a w' hR; (try (intro h1; try have e1 : _ = _ := h1)); (try (intro h2; try have e2 : _ = _ := h2)); (try (intro h3; try have e3 : _ = _ := h3)); go_simp; rfl))
      | (refine wpY_skip rfl rfl (by first | exact .inl rfl | exact .inr rfl) ?_))
    exact k) : G := h k
theorem yl0 {G G' : Prop} (k : G') (h : G' → G := by
    intro  k
    refine wpY_val rfl rfl (by first | exact runs0 | exact runs1 rfl) (by first | exact Ext.refl | exact GrownW.refl | exact (ExtC.refl _)) rfl ?_
    apply Exists.intro
    refine ⟨?_, ?_⟩
    · intro a w' hR
      (try (intro h1; try have e1 : _ = _ := h1)); (try (intro h2; try have e2 : _ = _ := h2)); (try (intro h3; try have e3 : _ = _ := h3)); (try (intro h4; try have e4 : _ = _ := h4))
      go_simp
      rfl
    exact k) : G := h  k
theorem yl1 {F0 G G' : Prop} (f0 : F0) (k : G') (h : F0 → G' → G := by
    intro f0 k
    refine wpY_val rfl rfl (by first | exact runs0 | exact runs1 rfl) (by first | exact Ext.refl | exact GrownW.refl | exact (ExtC.refl _)) rfl ?_
    apply Exists.intro
    refine ⟨?_, ?_⟩
    · intro a w' hR
      (try (intro h1; try have e1 : _ = _ := h1)); (try (intro h2; try have e2 : _ = _ := h2)); (try (intro h3; try have e3 : _ = _ := h3)); (try (intro h4; try have e4 : _ = _ := h4))
      first | have hl0 := hR.cell f0 | have hl0 := hR.ext.cell f0 | have hl0 := hR.cells _ _ f0 | have hl0 := hR.ints _ _ _ f0
      go_simp
      rfl
    exact k) : G := h f0 k
theorem yl2 {F0 F1 G G' : Prop} (f0 : F0) (f1 : F1) (k : G') (h : F0 → F1 → G' → G := by
    intro f0 f1 k
    refine wpY_val rfl rfl (by first | exact runs0 | exact runs1 rfl) (by first | exact Ext.refl | exact GrownW.refl | exact (ExtC.refl _)) rfl ?_
    apply Exists.intro
    refine ⟨?_, ?_⟩
    · intro a w' hR
      (try (intro h1; try have e1 : _ = _ := h1)); (try (intro h2; try have e2 : _ = _ := h2)); (try (intro h3; try have e3 : _ = _ := h3)); (try (intro h4; try have e4 : _ = _ := h4))
      first | have hl0 := hR.cell f0 | have hl0 := hR.ext.cell f0 | have hl0 := hR.cells _ _ f0 | have hl0 := hR.ints _ _ _ f0
      first | have hl1 := hR.cell f1 | have hl1 := hR.ext.cell f1 | have hl1 := hR.cells _ _ f1 | have hl1 := hR.ints _ _ _ f1
      go_simp
      rfl
    exact k) : G := h f0 f1 k
theorem yl6 {F0 F1 F2 F3 F4 F5 G G' : Prop} (f0 : F0) (f1 : F1) (f2 : F2) (f3 : F3) (f4 : F4) (f5 : F5) (k : G') (h : F0 → F1 → F2 → F3 → F4 → F5 → G' → G := by
    intro f0 f1 f2 f3 f4 f5 k
    refine wpY_val rfl rfl (by first | exact runs0 | exact runs1 rfl) (by first | exact Ext.refl | exact GrownW.refl | exact (ExtC.refl _)) rfl ?_
    apply Exists.intro
    refine ⟨?_, ?_⟩
    · intro a w' hR
      (try (intro h1; try have e1 : _ = _ := h1)); (try (intro h2; try have e2 : _ = _ := h2)); (try (intro h3; try have e3 : _ = _ := h3)); (try (intro h4; try have e4 : _ = _ := h4))
      first | have hl0 := hR.cell f0 | have hl0 := hR.ext.cell f0 | have hl0 := hR.cells _ _ f0 | have hl0 := hR.ints _ _ _ f0
      first | have hl1 := hR.cell f1 | have hl1 := hR.ext.cell f1 | have hl1 := hR.cells _ _ f1 | have hl1 := hR.ints _ _ _ f1
      first | have hl2 := hR.cell f2 | have hl2 := hR.ext.cell f2 | have hl2 := hR.cells _ _ f2 | have hl2 := hR.ints _ _ _ f2
      first | have hl3 := hR.cell f3 | have hl3 := hR.ext.cell f3 | have hl3 := hR.cells _ _ f3 | have hl3 := hR.ints _ _ _ f3
      first | have hl4 := hR.cell f4 | have hl4 := hR.ext.cell f4 | have hl4 := hR.cells _ _ f4 | have hl4 := hR.ints _ _ _ f4
      first | have hl5 := hR.cell f5 | have hl5 := hR.ext.cell f5 | have hl5 := hR.cells _ _ f5 | have hl5 := hR.ints _ _ _ f5
      go_simp
      rfl
    exact k) : G := h f0 f1 f2 f3 f4 f5 k
section
variable {P : Program} {ops : Array Oper} {Q : Exit → Act → World → Prop} {R0 R : World → World → Prop} {a0 : Act} {w0 : World} {S : World → Prop} {eff anc : List Tmp} {rest : List Planned} {fs : List (Tmp × Pred)} {d : Tmp} {o : Oper} {g : GuardS}
theorem wpY_callT {X : Value} {p : Prop} (con : Tag X p) (he : eff.contains d = false) (ha : anc.contains d = false) (hg : Runs fs g) (hd : o.dst = some d)
    (h : ∀ (a : Act) (w : World), R w0 w → LooksF fs a0 a w (opTmps o) (∀ K : Act → World → Prop, (∀ v w', R0 w w' → v = X → K (a.put o.dst v) w') → o.wp P a w K Q))
    (hr : wpY P Q R0 R a0 w0 eff anc S rest ((d, fun v _ => v = X) :: fs)) : wpY P Q R0 R a0 w0 eff anc S (⟨d, o, g⟩ :: rest) fs := wpY_call (fun v _ => v = X) he ha hg hd mono_eq h hr
end
theorem yc1 {G G' : Prop} {w0 : World} {C : World → Prop} (X : Value) (con : ∀ w' : World, Ext w0 w' → C w') (k : G') (h : Tag X (∀ w' : World, Ext w0 w' → C w') → G' → G := by
    intro con k
    refine wpY_callT con rfl rfl (by first | exact runs0 | exact runs1 rfl) rfl ?_ ?_
    · intro a w' hR h1 K hK
      have e1 : _ = _ := h1
      go_simp
      refine (con w' hR).mono ?_
      rintro e w2 ⟨rfl, he⟩
      exact hK _ _ he rfl
    exact k) : G := h con k
theorem yc2 {G G' : Prop} {w0 : World} {C : World → Prop} (X : Value) (con : ∀ w' : World, Ext w0 w' → C w') (k : G') (h : Tag X (∀ w' : World, Ext w0 w' → C w') → G' → G := by
    intro con k
    refine wpY_callT con rfl rfl (by first | exact runs0 | exact runs1 rfl) rfl ?_ ?_
    · intro a w' hR h1 h2 K hK
      have e1 : _ = _ := h1
      have e2 : _ = _ := h2
      go_simp
      refine (con w' hR).mono ?_
      rintro e w2 ⟨rfl, he⟩
      exact hK _ _ he rfl
    exact k) : G := h con k
theorem yx {G G' : Prop} (k : G') (h : G' → G := by
    intro k
    refine wp_regionY [] [] Ext Ext (fun _ => True) (by kernel_rfl) (by rfl) (by rfl) (by kernel_rfl) (by kernel_rfl) (by kernel_rfl) (fun _ _ _ x y => x.trans y) Ext.refl (fun _ _ x => x) (Ext.refl _).drew (fun _ _ x _ => x) trivial ?_
    exact k) : G := h k
theorem yd1 {G G' : Prop} {w0 : World} {C : World → Prop} (X : Value) (con : ∀ w' : World, Ext w0 w' → C w') (k : G') (h : Tag X (∀ w' : World, Ext w0 w' → C w') → G' → G := by
    intro con k
    refine wpY_callT con rfl rfl (by first | exact runs0 | exact runs1 rfl) rfl ?_ ?_
    · intro a w' hR h1 K hK
      have e1 : _ = _ := h1
      go_simp
      refine (con w' hR).mono ?_
      rintro e w2 ⟨rfl, rfl⟩
      exact hK _ _ (Ext.refl _) rfl
    exact k) : G := h con k
theorem yd2 {G G' : Prop} {w0 : World} {C : World → Prop} (X : Value) (con : ∀ w' : World, Ext w0 w' → C w') (k : G') (h : Tag X (∀ w' : World, Ext w0 w' → C w') → G' → G := by
    intro con k
    refine wpY_callT con rfl rfl (by first | exact runs0 | exact runs1 rfl) rfl ?_ ?_
    · intro a w' hR h1 h2 K hK
      have e1 : _ = _ := h1
      have e2 : _ = _ := h2
      go_simp
      refine (con w' hR).mono ?_
      rintro e w2 ⟨rfl, rfl⟩
      exact hK _ _ (Ext.refl _) rfl
    exact k) : G := h con k
end Go.Ox
