/-
  Eff2, packed: what the claim needs of them.
-/
import Derived.Test.YtpmgmiiidfconaaGreatDoorPz04
namespace Go.Ox
open Go.RowKit
/-- what is known of a slot when so many of the changing operations are done -/
abbrev PredC := Nat → Pred
/-- the facts, at a moment -/
def atC (c : Nat) (fs : List (Tmp × PredC)) : List (Tmp × Pred) := fs.map fun f => (f.1, f.2 c)
theorem atC_rev (c : Nat) (xs : List (Tmp × PredC)) : atC c xs.reverse = (atC c xs).reverse := List.map_reverse
def factsC (ps : List Planned) (Is : List PredC) (j : Nat) : List (Tmp × PredC) := (((ps.map (·.d)).zip Is).take j).reverse
theorem atC_zip (c : Nat) : ∀ (ds : List Tmp) (Is : List PredC), atC c (ds.zip Is) = ds.zip (Is.map (· c))
  | [], _ => rfl
  | _ :: _, [] => rfl
  | d :: ds, I :: Is => by simp [atC, List.zip_cons_cons]; exact atC_zip c ds Is
theorem atC_factsC (c : Nat) (ps : List Planned) (Is : List PredC) (j : Nat) : atC c (factsC ps Is j) = factsAt ps (Is.map (· c)) j := by
  unfold factsC factsAt
  rw [atC_rev, ← atC_zip]
  congr 1
  unfold atC
  rw [List.map_take]
section
variable {P : Program} {ops : Array Oper} {Q : Exit → Act → World → Prop} {R0 R : World → World → Prop} {E : Nat → World → World → Prop} {a0 : Act} {w0 : World}
/-- a fact is kept: while nothing changes, and over each change -/
def KeptC (R0 : World → World → Prop) (E : Nat → World → World → Prop) (I : PredC) : Prop :=
  (∀ c v w w', I c v w → R0 w w' → I c v w') ∧ (∀ c v w w', I c v w → E c w w' → I (c + 1) v w')
def OwesCE (P : Program) (Q : Exit → Act → World → Prop) (R0 R : World → World → Prop) (E : Nat → World → World → Prop) (a0 : Act) (w0 : World) (i : Nat) (S S' : World → Prop) (fs : List (Tmp × PredC)) (p : Planned) (I : PredC) : Prop :=
  KeptC R0 E I ∧
  ∀ (a : Act) (w : World), R w0 w → S w → LooksF (atC i fs) a0 a w p.looks
    (if wantedS p.g a = true then p.o.wp P a w (fun a' w' => ∃ v, a' = a.put (some p.d) v ∧ R w w' ∧ E i w w' ∧ S' w' ∧ I (i + 1) v w') Q else E i w w ∧ S' w ∧ I (i + 1) undef w)
def OwesCP (P : Program) (Q : Exit → Act → World → Prop) (R0 R : World → World → Prop) (E : Nat → World → World → Prop) (a0 : Act) (w0 : World) (fs : List (Tmp × PredC)) (p : Planned) (I : PredC) : Prop :=
  KeptC R0 E I ∧
  ∀ (c : Nat) (a : Act) (w : World), R w0 w → LooksF (atC c fs) a0 a w p.looks
    (if wantedS p.g a = true then p.o.wp P a w (fun a' w' => ∃ v, a' = a.put (some p.d) v ∧ R0 w w' ∧ I c v w') Q else I c undef w)
def OwesCA (P : Program) (Q : Exit → Act → World → Prop) (R0 R : World → World → Prop) (E : Nat → World → World → Prop) (a0 : Act) (w0 : World) (k : Nat) (S : World → Prop) (fs : List (Tmp × PredC)) (p : Planned) (I : PredC) : Prop :=
  KeptC R0 E I ∧
  ∀ (a : Act) (w : World), R w0 w → S w → LooksF (atC k fs) a0 a w p.looks
    (if wantedS p.g a = true then p.o.wp P a w (fun a' w' => ∃ v, a' = a.put (some p.d) v ∧ R0 w w' ∧ I k v w') Q else I k undef w)
def wpC (P : Program) (Q : Exit → Act → World → Prop) (R0 R : World → World → Prop) (E : Nat → World → World → Prop) (a0 : Act) (w0 : World) (eff anc : List Tmp) : Nat → (World → Prop) → List Planned → List (Tmp × PredC) → Prop
  | k, S, [], fs => ∀ w, R w0 w → S w → FinV (fun a => Q .normal a w) w (atC k fs).reverse a0
  | k, S, p :: rest, fs =>
    if eff.contains p.d = true then ∃ (I : PredC) (S' : World → Prop), (∀ w w', S' w → R0 w w' → S' w') ∧ OwesCE P Q R0 R E a0 w0 k S S' fs p I ∧ wpC P Q R0 R E a0 w0 eff anc (k + 1) S' rest ((p.d, I) :: fs)
    else if anc.contains p.d = true then ∃ I : PredC, OwesCA P Q R0 R E a0 w0 k S fs p I ∧ wpC P Q R0 R E a0 w0 eff anc k S rest ((p.d, I) :: fs)
    else ∃ I : PredC, OwesCP P Q R0 R E a0 w0 fs p I ∧ wpC P Q R0 R E a0 w0 eff anc k S rest ((p.d, I) :: fs)
theorem wpC_parts {eff anc : List Tmp} : ∀ (l : List Planned) (k : Nat) (S : World → Prop) (fs : List (Tmp × PredC)), (∀ w w', S w → R0 w w' → S w') → wpC P Q R0 R E a0 w0 eff anc k S l fs → ∃ (Is : List PredC) (Ss : List (World → Prop)),
    Is.length = l.length ∧ Ss.length = (effIx eff l 0).length + 1 ∧ Ss[0]? = some S ∧ (∀ T ∈ Ss, ∀ w w', T w → R0 w w' → T w') ∧
    (∀ (j : Nat) (p : Planned) (I : PredC), l[j]? = some p → Is[j]? = some I → eff.contains p.d = false → anc.contains p.d = false → OwesCP P Q R0 R E a0 w0 (factsC l Is j ++ fs) p I) ∧
    (∀ (j : Nat) (p : Planned) (I : PredC), l[j]? = some p → Is[j]? = some I → eff.contains p.d = false → anc.contains p.d = true → ∃ (i : Nat) (T : World → Prop), (j, i) ∈ ancIx eff anc l 0 0 ∧ Ss[i]? = some T ∧ OwesCA P Q R0 R E a0 w0 (k + i) T (factsC l Is j ++ fs) p I) ∧
    (∀ (j : Nat) (p : Planned) (I : PredC), l[j]? = some p → Is[j]? = some I → eff.contains p.d = true → ∃ (i : Nat) (T T' : World → Prop), (effIx eff l 0)[i]? = some j ∧ Ss[i]? = some T ∧ Ss[i + 1]? = some T' ∧ OwesCE P Q R0 R E a0 w0 (k + i) T T' (factsC l Is j ++ fs) p I) ∧
    ∃ T, Ss[(effIx eff l 0).length]? = some T ∧ ∀ w, R w0 w → T w → FinV (fun a => Q .normal a w) w (atC (k + (effIx eff l 0).length) (fs.reverse ++ ((l.map (·.d)).zip Is))) a0
  | [], k, S, fs, hS, h => ⟨[], [S], rfl, rfl, rfl, by simpa using hS, by simp, by simp, by simp, S, rfl, by simpa [wpC, effIx, atC_rev] using h⟩
  | p :: l, k, S, fs, hS, h => by
    unfold wpC at h
    split at h
    · rename_i he
      obtain ⟨I, S', hS', ho, hr⟩ := h
      obtain ⟨Is, Ss, h1, h2, h3, h4, h5, h5a, h6, T, h7, h8⟩ := wpC_parts l (k + 1) S' _ hS' hr
      have hx : effIx eff (p :: l) 0 = 0 :: (effIx eff l 0).map (· + 1) := by
        conv => lhs; unfold effIx
        rw [if_pos he, effIx_shift]
      have hy : ancIx eff anc (p :: l) 0 0 = (ancIx eff anc l 0 0).map (fun x => (x.1 + 1, x.2 + 1)) := by
        conv => lhs; unfold ancIx
        rw [if_pos he, ancIx_shift, ancIx_shift2, List.map_map]
        rfl
      refine ⟨I :: Is, S :: Ss, by simp [h1], by rw [hx]; simp [h2], rfl, ?_, ?_, ?_, ?_, T, by rw [hx]; simpa using h7, fun w hw hT => by
        have h9 := h8 w hw hT
        rw [hx]
        rw [show k + (0 :: (effIx eff l 0).map (· + 1)).length = k + 1 + (effIx eff l 0).length by simp; omega]
        simpa using h9⟩
      · intro U hU
        rcases List.mem_cons.1 hU with rfl | hU
        · exact hS
        · exact h4 U hU
      · intro j q J hq hJ hn hm
        cases j with
        | zero => simp at hq; subst hq; rw [he] at hn; cases hn
        | succ j => simpa [factsC, List.append_assoc] using h5 j q J (by simpa using hq) (by simpa using hJ) hn hm
      · intro j q J hq hJ hn hm
        cases j with
        | zero => simp at hq; subst hq; rw [he] at hn; cases hn
        | succ j =>
          obtain ⟨i, U, a, b, c⟩ := h5a j q J (by simpa using hq) (by simpa using hJ) hn hm
          refine ⟨i + 1, U, by rw [hy]; exact List.mem_map.2 ⟨_, a, rfl⟩, by simpa using b, ?_⟩
          rw [show k + (i + 1) = k + 1 + i by omega]
          simpa [factsC, List.append_assoc] using c
      · intro j q J hq hJ hn
        cases j with
        | zero =>
          simp at hq hJ; subst hq hJ
          exact ⟨0, S, S', by rw [hx]; rfl, rfl, by simpa using h3, by simpa [factsC] using ho⟩
        | succ j =>
          obtain ⟨i, U, U', a, b, c, d⟩ := h6 j q J (by simpa using hq) (by simpa using hJ) hn
          refine ⟨i + 1, U, U', by rw [hx]; simp [a], by simpa using b, by simpa using c, ?_⟩
          rw [show k + (i + 1) = k + 1 + i by omega]
          simpa [factsC, List.append_assoc] using d
    · rename_i he
      have hx : effIx eff (p :: l) 0 = (effIx eff l 0).map (· + 1) := by
        conv => lhs; unfold effIx
        rw [if_neg he, effIx_shift]
      split at h
      · rename_i hac
        obtain ⟨I, ho, hr⟩ := h
        obtain ⟨Is, Ss, h1, h2, h3, h4, h5, h5a, h6, T, h7, h8⟩ := wpC_parts l k S _ hS hr
        have hy : ancIx eff anc (p :: l) 0 0 = (0, 0) :: (ancIx eff anc l 0 0).map (fun x => (x.1 + 1, x.2)) := by
          conv => lhs; unfold ancIx
          rw [if_neg he, if_pos hac, ancIx_shift]
        refine ⟨I :: Is, Ss, by simp [h1], by rw [hx]; simp [h2], h3, h4, ?_, ?_, ?_, T, by rw [hx]; simpa using h7, fun w hw hT => by
          have h9 := h8 w hw hT
          rw [hx, List.length_map]
          simpa using h9⟩
        · intro j q J hq hJ hn hm
          cases j with
          | zero => simp at hq; subst hq; rw [hac] at hm; cases hm
          | succ j => simpa [factsC, List.append_assoc] using h5 j q J (by simpa using hq) (by simpa using hJ) hn hm
        · intro j q J hq hJ hn hm
          cases j with
          | zero =>
            simp at hq hJ; subst hq hJ
            exact ⟨0, S, by rw [hy]; exact List.mem_cons_self .., h3, by simpa [factsC] using ho⟩
          | succ j =>
            obtain ⟨i, U, a, b, c⟩ := h5a j q J (by simpa using hq) (by simpa using hJ) hn hm
            exact ⟨i, U, by rw [hy]; exact List.mem_cons_of_mem _ (List.mem_map.2 ⟨_, a, rfl⟩), b, by simpa [factsC, List.append_assoc] using c⟩
        · intro j q J hq hJ hn
          cases j with
          | zero => simp at hq; subst hq; rw [hn] at he; cases he rfl
          | succ j =>
            obtain ⟨i, U, U', a, b, c, d⟩ := h6 j q J (by simpa using hq) (by simpa using hJ) hn
            exact ⟨i, U, U', by rw [hx]; simp [a], b, c, by simpa [factsC, List.append_assoc] using d⟩
      · rename_i hac
        obtain ⟨I, ho, hr⟩ := h
        obtain ⟨Is, Ss, h1, h2, h3, h4, h5, h5a, h6, T, h7, h8⟩ := wpC_parts l k S _ hS hr
        have hy : ancIx eff anc (p :: l) 0 0 = (ancIx eff anc l 0 0).map (fun x => (x.1 + 1, x.2)) := by
          conv => lhs; unfold ancIx
          rw [if_neg he, if_neg hac, ancIx_shift]
        refine ⟨I :: Is, Ss, by simp [h1], by rw [hx]; simp [h2], h3, h4, ?_, ?_, ?_, T, by rw [hx]; simpa using h7, fun w hw hT => by
          have h9 := h8 w hw hT
          rw [hx, List.length_map]
          simpa using h9⟩
        · intro j q J hq hJ hn hm
          cases j with
          | zero => simp at hq hJ; subst hq hJ; simpa [factsC] using ho
          | succ j => simpa [factsC, List.append_assoc] using h5 j q J (by simpa using hq) (by simpa using hJ) hn hm
        · intro j q J hq hJ hn hm
          cases j with
          | zero => simp at hq; subst hq; rw [hm] at hac; cases hac rfl
          | succ j =>
            obtain ⟨i, U, a, b, c⟩ := h5a j q J (by simpa using hq) (by simpa using hJ) hn hm
            exact ⟨i, U, by rw [hy]; exact List.mem_map.2 ⟨_, a, rfl⟩, b, by simpa [factsC, List.append_assoc] using c⟩
        · intro j q J hq hJ hn
          cases j with
          | zero => simp at hq; subst hq; rw [hn] at he; cases he rfl
          | succ j =>
            obtain ⟨i, U, U', a, b, c, d⟩ := h6 j q J (by simpa using hq) (by simpa using hJ) hn
            exact ⟨i, U, U', by rw [hx]; simp [a], b, c, by simpa [factsC, List.append_assoc] using d⟩
/-- how far it has come, and with what facts -/
structure PhaseC (R : World → World → Prop) (ps : List Planned) (Is : List PredC) (a0 : Act) (w0 : World) (es : List Nat) (Ss : List (World → Prop)) (listed : Array Bool) (a : Act) (w : World) : Prop where
  at_ : ∃ (c : Nat) (T : World → Prop), Ss[c]? = some T ∧ T w ∧ (∀ i j, es[i]? = some j → i < c → listed.getD j false = true) ∧ (∀ i j, es[i]? = some j → c ≤ i → listed.getD j true = false) ∧
    Inv R ps (Is.map (· c)) a0 w0 listed a w
/-- a step: the facts of before hold at what is now known -/
theorem inv_stepC {ps : List Planned} {Is Js : List Pred} (hok : planOk a0.tmps.size ps = true) (htr : ∀ a b c, R a b → R b c → R a c)
    {listed : Array Bool} {a : Act} {w w' : World} (h : Inv R ps Is a0 w0 listed a w)
    (hmono : ∀ (j : Nat) (I J : Pred), Is[j]? = some I → Js[j]? = some J → ∀ v, I v w → J v w') (hl : Is.length = Js.length)
    {j : Nat} {p : Planned} {J : Pred} (hj : ps[j]? = some p) (hJ : Js[j]? = some J) (hun : listed.getD j true = false)
    (hall : ∀ e ∈ p.o.after, Region.binds .any e = true → listed.getD e.on false = true) (hR : R w w') {v : Value} (hv : J v w') :
    Inv R ps Js a0 w0 (listed.setIfInBounds j true) (a.put (some p.d) v) w' := by
  have hjl : j < listed.size := by
    rcases Nat.lt_or_ge j listed.size with h' | h'
    · exact h'
    · simp [Array.getElem?_eq_none h'] at hun
  have hset : ∀ k, k ≠ j → (listed.setIfInBounds j true).getD k true = listed.getD k true := fun k hk => getD_set_ne true (Ne.symm hk)
  have hd := (planOk_spec hok hj).1
  refine ⟨by simpa using h.size, htr _ _ _ h.world hR, by simpa [Act.put] using h.defers, by rw [size_put]; exact h.tsize, ?_, ?_, ?_⟩
  · intro k q hq hk e he hb
    by_cases hkj : k = j
    · subst hkj
      rw [hj] at hq; injection hq with hq; subst hq
      exact getD_set_true (hall e he hb)
    · rw [hset k hkj] at hk
      exact getD_set_true (h.closed k q hq hk e he hb)
  · intro k q J' hq hJ' hk
    by_cases hkj : k = j
    · subst hkj
      rw [hj] at hq; injection hq with hq; subst hq
      rw [hJ] at hJ'; injection hJ' with hJ'; subst hJ'
      rw [getD_put_same _ _ _ (by rw [h.tsize]; exact hd)]
      exact hv
    · rw [hset k hkj] at hk
      rw [getD_put_ne _ _ _ _ (((planOk_spec hok hj).2.2 k q hq hkj).1)]
      have hkl : k < Is.length := by
        rcases Nat.lt_or_ge k Js.length with h' | h'
        · omega
        · rw [List.getElem?_eq_none h'] at hJ'; cases hJ'
      exact hmono k Is[k] J' (List.getElem?_eq_getElem hkl) hJ' _ (h.fact k q Is[k] hq (List.getElem?_eq_getElem hkl) hk)
  · intro t ht
    have hpt : p.d ≠ t := ht j p hj (by simp [Array.getD, hjl])
    rw [getD_put_ne _ _ _ _ hpt]
    refine h.other t fun k q hq hk => ?_
    by_cases hkj : k = j
    · subst hkj; rw [hk] at hun; cases hun
    · exact ht k q hq (by rw [hset k hkj]; exact hk)
theorem wpAny_of_effC {eff anc : List Tmp} {ps : List Planned} {Is : List PredC} {Ss : List (World → Prop)} (hl : Is.length = ps.length) (hplan : planOf ops ops.toList = some ps) (hok : planOk a0.tmps.size ps = true)
    (hch : chained (masks ps []) (effIx eff ps 0) = true) (han : anchored (masks ps []) (effIx eff ps 0) (ancIx eff anc ps 0 0) = true)
    (htr : ∀ a b c, R a b → R b c → R a c) (hrf : ∀ a, R a a) (h0R : ∀ a b, R0 a b → R a b) (h0rf : ∀ a, R0 a a)
    (hS0 : ∀ T ∈ Ss, ∀ w w', T w → R0 w w' → T w') (hSl : Ss.length = (effIx eff ps 0).length + 1)
    (hoP : ∀ (j : Nat) (p : Planned) (I : PredC), ps[j]? = some p → Is[j]? = some I → eff.contains p.d = false → anc.contains p.d = false → OwesCP P Q R0 R E a0 w0 (factsC ps Is j) p I)
    (hoA : ∀ (j : Nat) (p : Planned) (I : PredC), ps[j]? = some p → Is[j]? = some I → eff.contains p.d = false → anc.contains p.d = true → ∃ (k : Nat) (T : World → Prop), (j, k) ∈ ancIx eff anc ps 0 0 ∧ Ss[k]? = some T ∧ OwesCA P Q R0 R E a0 w0 k T (factsC ps Is j) p I)
    (hoE : ∀ (j : Nat) (p : Planned) (I : PredC), ps[j]? = some p → Is[j]? = some I → eff.contains p.d = true → ∃ (i : Nat) (T T' : World → Prop), (effIx eff ps 0)[i]? = some j ∧ Ss[i]? = some T ∧ Ss[i + 1]? = some T' ∧ OwesCE P Q R0 R E a0 w0 i T T' (factsC ps Is j) p I)
    (hnot : ∀ (i j : Nat) (p : Planned), (effIx eff ps 0)[i]? = some j → ps[j]? = some p → eff.contains p.d = true)
    (hf : ∃ T, Ss[(effIx eff ps 0).length]? = some T ∧ ∀ w, R w0 w → T w → FinV (fun a => Q .normal a w) w (atC (effIx eff ps 0).length ((ps.map (·.d)).zip Is)) a0) :
    ∀ (fuel : Nat) (listed : Array Bool) (a : Act) (w : World), PhaseC R ps Is a0 w0 (effIx eff ps 0) Ss listed a w → unlisted listed = fuel → wpAny P .any ops Q fuel listed a w := by
  obtain ⟨hlen, hspec⟩ := planOf_spec _ _ hplan
  have hn : ops.size = ps.length := by simp [hlen]
  have hp : ∀ (j : Nat) (p : Planned), ps[j]? = some p → ops[j]? = some p.o := fun j p h => by simpa using (hspec j p h).1
  have hkept : ∀ (j : Nat) (I : PredC), Is[j]? = some I → KeptC R0 E I := fun j I hI => by
    have hjl : j < Is.length := by
      rcases Nat.lt_or_ge j Is.length with h | h
      · exact h
      · rw [List.getElem?_eq_none h] at hI; cases hI
    have hpj : ps[j]? = some (ps[j]'(by omega)) := List.getElem?_eq_getElem (by omega)
    cases he : eff.contains (ps[j]'(by omega)).d with
    | false =>
      cases hac : anc.contains (ps[j]'(by omega)).d with
      | false => exact (hoP j _ I hpj hI he hac).1
      | true => obtain ⟨k, T, _, _, h⟩ := hoA j _ I hpj hI he hac; exact h.1
    | true => obtain ⟨i, T, T', _, _, _, h⟩ := hoE j _ I hpj hI he; exact h.1
  have hmap : ∀ (c j : Nat) (J : Pred), (Is.map (· c))[j]? = some J → ∃ I : PredC, Is[j]? = some I ∧ J = I c := fun c j J h => by
    rw [List.getElem?_map, Option.map_eq_some_iff] at h
    obtain ⟨I, h1, h2⟩ := h
    exact ⟨I, h1, h2.symm⟩
  have hkeep0 : ∀ (c : Nat) (w w' : World), R0 w w' → ∀ (j : Nat) (I J : Pred), (Is.map (· c))[j]? = some I → (Is.map (· c))[j]? = some J → ∀ v, I v w → J v w' := fun c w w' hR j I J h1 h2 v hv => by
    rw [h1] at h2; injection h2 with h2; subst h2
    obtain ⟨I', h3, rfl⟩ := hmap c j _ h1
    exact (hkept j I' h3).1 c v w w' hv hR
  have hkeepE : ∀ (c : Nat) (w w' : World), E c w w' → ∀ (j : Nat) (I J : Pred), (Is.map (· c))[j]? = some I → (Is.map (· (c + 1)))[j]? = some J → ∀ v, I v w → J v w' := fun c w w' hE j I J h1 h2 v hv => by
    obtain ⟨I', h3, rfl⟩ := hmap c j _ h1
    obtain ⟨J', h4, rfl⟩ := hmap (c + 1) j _ h2
    rw [h3] at h4; injection h4 with h4; subst h4
    exact (hkept j I' h3).2 c v w w' hv hE
  have hdep : ∀ i k, ((masks ps []).getD i 0).testBit k = true → Dep ps i k := masks_sound ps [] [] rfl rfl (fun i k h => by simp at h)
  have hend : ∀ (listed : Array Bool) (a : Act) (w : World), PhaseC R ps Is a0 w0 (effIx eff ps 0) Ss listed a w → (∀ j, j < ps.length → listed.getD j false = true) → Q .normal a w := by
    intro listed a w hph hall
    obtain ⟨T, hT, hfin⟩ := hf
    obtain ⟨c, U, hU, hUw, h1, h2, hinv⟩ := hph.at_
    have hcl : c < Ss.length := by
      rcases Nat.lt_or_ge c Ss.length with h | h
      · exact h
      · rw [List.getElem?_eq_none h] at hU; cases hU
    have hc : c = (effIx eff ps 0).length := by
      rcases Nat.lt_or_ge c (effIx eff ps 0).length with h | h
      · exfalso
        have h3 : (effIx eff ps 0)[c]? = some (effIx eff ps 0)[c] := List.getElem?_eq_getElem h
        have h4 := h2 c _ h3 (Nat.le_refl _)
        have hlt : (effIx eff ps 0)[c] < listed.size := by
          rcases Nat.lt_or_ge (effIx eff ps 0)[c] listed.size with h | h
          · exact h
          · simp [Array.getElem?_eq_none h] at h4
        rw [getD_true_iff hlt, hall _ (by rw [← hinv.size]; exact hlt)] at h4
        cases h4
      · omega
    subst hc
    rw [hT] at hU; injection hU with hU; subst hU
    have h9 := hfin w hinv.world hUw
    rw [atC_zip] at h9
    exact inv_end (G := fun a => Q .normal a w) (by simpa using hl) hok hinv hall h9
  intro fuel
  induction fuel with
  | zero =>
    intro listed a w hph hu
    obtain ⟨c0, _, _, _, _, _, hinv⟩ := hph.at_
    have hall : ∀ j, j < ps.length → listed.getD j false = true := fun j hj => unlisted_zero hu (by rw [hinv.size]; exact hj)
    refine ⟨?_, hend listed a w hph hall⟩
    rw [List.eq_nil_iff_forall_not_mem]
    intro j hj
    obtain ⟨h0, o, hoj, _⟩ := mem_ready.1 hj
    have hjl : j < ps.length := by
      rw [← hn]
      rcases Nat.lt_or_ge j ops.size with h | h
      · exact h
      · rw [Array.getElem?_eq_none h] at hoj; cases hoj
    rw [getD_true_iff (by rw [hinv.size]; exact hjl), hall j hjl] at h0
    cases h0
  | succ fuel ih =>
    intro listed a w hph hu
    obtain ⟨c, U, hU, hUw, h1, h2, hinv⟩ := hph.at_
    refine ⟨fun hr => ?_, fun j hj => ?_⟩
    · exact hend listed a w hph (all_listed hp (fun j p h => (planOk_spec hok h).2.1) hinv.size hr)
    · obtain ⟨h0, o, hoj, hall⟩ := mem_ready.1 hj
      have hjl : j < ps.length := by
        rw [← hn]
        rcases Nat.lt_or_ge j ops.size with h | h
        · exact h
        · rw [Array.getElem?_eq_none h] at hoj; cases hoj
      have hpj : ps[j]? = some ps[j] := List.getElem?_eq_getElem hjl
      have hIj : Is[j]? = some (Is[j]'(by omega)) := List.getElem?_eq_getElem (by omega)
      have hIc : ∀ c, (Is.map (· c))[j]? = some ((Is[j]'(by omega)) c) := fun c => by rw [List.getElem?_map, hIj]; rfl
      have hoj' := hp j _ hpj
      rw [hoj] at hoj'; injection hoj' with hoj'; subst hoj'
      obtain ⟨_, hdst, hg⟩ := hspec j _ hpj
      have hsl : j < listed.size := by rw [hinv.size]; exact hjl
      have hus := unlisted_set h0
      have hslot := fun t ht => slotF_of_inv (R := R) (n := a0.tmps.size) (by simpa using hl) hok hinv hpj h0 hall t ht
      rw [show factsAt ps (Is.map (· c)) j = atC c (factsC ps Is j) from (atC_factsC c ps Is j).symm] at hslot
      unfold wpOp
      rw [hoj]
      show if Region.wanted ps[j].o (yielded ops a.tmps) = true then _ else _
      rw [wanted_planned hg a]
      cases he : eff.contains ps[j].d with
      | false =>
        have hob : (if wantedS ps[j].g a = true then ps[j].o.wp P a w (fun a' w' => ∃ v, a' = a.put (some ps[j].d) v ∧ R0 w w' ∧ (Is[j]'(by omega)) c v w') Q else (Is[j]'(by omega)) c undef w) := by
          cases hac : anc.contains ps[j].d with
          | false => exact ((hoP j _ _ hpj hIj he hac).2 c a w hinv.world).use hslot
          | true =>
            obtain ⟨k, T, hmem, hT, hoa⟩ := hoA j _ _ hpj hIj he hac
            have hak := List.all_eq_true.1 han _ hmem
            simp only [Bool.and_eq_true, Bool.or_eq_true, beq_iff_eq] at hak
            have hck : c = k := by
              rcases Nat.lt_trichotomy c k with h | h | h
              · exfalso
                rcases hak.1 with h3 | h3
                · omega
                · split at h3
                  · rename_i e hee
                    have h5 := dep_listed hinv.closed (hdep _ _ h3) (fun p hp' e he hb => by rw [hpj] at hp'; injection hp' with hp'; subst hp'; exact hall e he hb)
                    have h6 := h2 (k - 1) e hee (by omega)
                    have hlt : e < listed.size := by
                      rcases Nat.lt_or_ge e listed.size with h | h
                      · exact h
                      · simp [Array.getElem?_eq_none h] at h6
                    rw [getD_true_iff hlt, h5] at h6
                    cases h6
                  · cases h3
              · exact h
              · exfalso
                have hcl : c < Ss.length := by
                  rcases Nat.lt_or_ge c Ss.length with h | h
                  · exact h
                  · rw [List.getElem?_eq_none h] at hU; cases hU
                have hee : (effIx eff ps 0)[k]? = some (effIx eff ps 0)[k] := List.getElem?_eq_getElem (by omega)
                have h3 := hak.2
                rw [hee] at h3
                have h6 := h1 k _ hee h
                have hlt : (effIx eff ps 0)[k] < listed.size := by
                  rcases Nat.lt_or_ge (effIx eff ps 0)[k] listed.size with h | h
                  · exact h
                  · simp [Array.getD, Nat.not_lt.2 h] at h6
                have h7 := dep_listed hinv.closed (hdep _ _ h3) (fun p hp' e he hb => hinv.closed _ p hp' (by rw [getD_true_iff hlt]; exact h6) e he hb)
                rw [getD_true_iff hsl, h7] at h0
                cases h0
            subst hck
            rw [hT] at hU; injection hU with hU; subst hU
            exact (hoa.2 a w hinv.world hUw).use hslot
        have hkeep : ∀ (v : Value) (w' : World), R0 w w' → (Is[j]'(by omega)) c v w' → PhaseC R ps Is a0 w0 (effIx eff ps 0) Ss (listed.setIfInBounds j true) (a.put (some ps[j].d) v) w' := by
          intro v w' hR hv
          refine ⟨c, U, hU, hS0 U (List.mem_of_getElem? hU) _ _ hUw hR, fun i k hk hi => getD_set_true (h1 i k hk hi), fun i k hk hi => ?_, inv_stepC hok htr hinv (hkeep0 c w w' hR) rfl hpj (hIc c) h0 hall (h0R _ _ hR) hv⟩
          rw [getD_set_ne true]
          · exact h2 i k hk hi
          · rintro rfl
            have := hnot i j _ hk hpj
            rw [he] at this; cases this
        split
        · rename_i hw
          rw [if_pos hw] at hob
          refine .inl (Oper.wp_mono (fun a' w' hk => ?_) hob)
          obtain ⟨v, rfl, hR, hv⟩ := hk
          exact ih _ _ _ (hkeep v w' hR hv) (by omega)
        · rename_i hw
          rw [if_neg hw] at hob
          rw [hdst]
          exact ih _ _ _ (hkeep undef w (h0rf w) hob) (by omega)
      | true =>
        obtain ⟨i, T, T', hi, hT, hT', hoe⟩ := hoE j _ _ hpj hIj he
        have hci : c = i := by
          rcases Nat.lt_trichotomy c i with h | h | h
          · exfalso
            obtain ⟨i', rfl⟩ : ∃ i', i = i' + 1 := ⟨i - 1, by omega⟩
            have hil : i' < (effIx eff ps 0).length := by
              rcases Nat.lt_or_ge i' (effIx eff ps 0).length with h | h
              · exact h
              · rw [List.getElem?_eq_none (by omega)] at hi; cases hi
            have h3 : (effIx eff ps 0)[i']? = some (effIx eff ps 0)[i'] := List.getElem?_eq_getElem hil
            have h4 := (chained_at _ hch i' _ j h3 hi).1
            have h5 := dep_listed hinv.closed (hdep _ _ h4) (fun p hp' e he hb => by rw [hpj] at hp'; injection hp' with hp'; subst hp'; exact hall e he hb)
            have h6 := h2 i' _ h3 (by omega)
            have hlt : (effIx eff ps 0)[i'] < listed.size := by
              rcases Nat.lt_or_ge (effIx eff ps 0)[i'] listed.size with h | h
              · exact h
              · simp [Array.getElem?_eq_none h] at h6
            rw [getD_true_iff hlt, h5] at h6
            cases h6
          · exact h
          · exfalso
            have := h1 i j hi h
            rw [getD_true_iff hsl, this] at h0
            cases h0
        subst hci
        rw [hT] at hU; injection hU with hU; subst hU
        have hob := (hoe.2 a w hinv.world hUw).use hslot
        have hkeep : ∀ (v : Value) (w' : World), R w w' → E c w w' → T' w' → (Is[j]'(by omega)) (c + 1) v w' → PhaseC R ps Is a0 w0 (effIx eff ps 0) Ss (listed.setIfInBounds j true) (a.put (some ps[j].d) v) w' := by
          intro v w' hR hE hw' hv
          refine ⟨c + 1, T', hT', hw', fun x k hk hx => ?_, fun x k hk hx => ?_, inv_stepC hok htr hinv (hkeepE c w w' hE) (by simp) hpj (hIc (c + 1)) h0 hall hR hv⟩
          · by_cases hxc : x = c
            · subst hxc
              rw [hi] at hk; injection hk with hk; subst hk
              simp [Array.getD, hsl]
            · exact getD_set_true (h1 x k hk (by omega))
          · rw [getD_set_ne true]
            · exact h2 x k hk (by omega)
            · intro e
              have hlt : j < k := chained_lt hch c (x - c - 1) hi (by rw [show c + (x - c - 1) + 1 = x by omega]; exact hk)
              omega
        split
        · rename_i hw
          rw [if_pos hw] at hob
          refine .inl (Oper.wp_mono (fun a' w' hk => ?_) hob)
          obtain ⟨v, rfl, hR, hE, hS', hv⟩ := hk
          exact ih _ _ _ (hkeep v w' hR hE hS' hv) (by omega)
        · rename_i hw
          rw [if_neg hw] at hob
          rw [hdst]
          exact ih _ _ _ (hkeep undef w (hrf w) hob.1 hob.2.1 hob.2.2) (by omega)
end
end Go.Ox
namespace Go.Ox
open Go.RowKit
section
variable {P : Program} {ops : Array Oper} {Q : Exit → Act → World → Prop} {R0 R : World → World → Prop} {E : Nat → World → World → Prop} {a0 : Act} {w0 : World}
variable {S : World → Prop} {eff anc : List Tmp} {rest : List Planned} {fs : List (Tmp × PredC)} {d e t : Tmp} {o : Oper} {g : GuardS} {b : Bool} {k : Nat}
/-- 'wpC', shut; a change asks nothing but R -/
def wpZ (P : Program) (Q : Exit → Act → World → Prop) (R0 R : World → World → Prop) (a0 : Act) (w0 : World) (eff anc : List Tmp) (k : Nat) (S : World → Prop) (l : List Planned) (fs : List (Tmp × PredC)) : Prop := wpC P Q R0 R (fun _ => R) a0 w0 eff anc k S l fs
/-- a fact that does not hang on the world -/
theorem keptC_eq {X : Value} : KeptC R0 E (fun _ v _ => v = X) := ⟨fun _ _ _ _ h _ => h, fun _ _ _ _ h _ => h⟩
/-- a fact until the change k -/
theorem keptC_till {I : Pred} {n : Nat} (hm : ∀ v w w', I v w → R0 w w' → I v w') (hn : ∀ c, c < n → ∀ v w w', I v w → E c w w' → I v w') : KeptC R0 E (fun c v w => c ≤ n → I v w) :=
  ⟨fun c v w w' h hR hc => hm v w w' (h hc) hR, fun c v w w' h hE hc => hn c (by omega) v w w' (h (by omega)) hE⟩
theorem wpZ_done (h : ∀ w, R w0 w → S w → FinV (fun a => Q .normal a w) w (atC k fs).reverse a0) : wpZ P Q R0 R a0 w0 eff anc k S [] fs := h
theorem wpZ_val (he : eff.contains d = false) (ha : anc.contains d = false) (hg : ∀ c, Runs (atC c fs) g) (hrf : ∀ w, R0 w w) (hd : o.dst = some d)
    (hX : ∃ X : Value, (∀ (c : Nat) (a : Act) (w : World), R w0 w → LooksF (atC c fs) a0 a w (opTmps o) ((execOp a.eval o).run P w = .ok (.value X) w)) ∧
      wpZ P Q R0 R a0 w0 eff anc k S rest ((d, fun _ v _ => v = X) :: fs)) : wpZ P Q R0 R a0 w0 eff anc k S (⟨d, o, g⟩ :: rest) fs := by
  obtain ⟨X, h, hr⟩ := hX
  unfold wpZ wpC
  rw [if_neg (by rw [he]; simp), if_neg (by rw [ha]; simp)]
  refine ⟨_, ⟨keptC_eq, fun c a w hR => looks_run (hg c) (looksF_mono (fun k => ?_) _ (h c a w hR))⟩, hr⟩
  simp only [Oper.wp, k, Oper.upon, hd]
  exact ⟨X, rfl, hrf w, rfl⟩
theorem wpZ_move0 (he : eff.contains d = false) (ha : anc.contains d = false) (hg : ∀ c, Runs (atC c fs) g) (hrf : ∀ w, R0 w w) (ho : o.op = .move (.tmp t)) (hd : o.dst = some d) (hf : ∀ c, ((atC c fs).find? (fun f => f.1 == t)) = none)
    (hX : ∃ X : Value, a0.tmps.getD t undef = X ∧ wpZ P Q R0 R a0 w0 eff anc k S rest ((d, fun _ v _ => v = X) :: fs)) : wpZ P Q R0 R a0 w0 eff anc k S (⟨d, o, g⟩ :: rest) fs := by
  obtain ⟨X, hX, hr⟩ := hX
  unfold wpZ wpC
  rw [if_neg (by rw [he]; simp), if_neg (by rw [ha]; simp)]
  refine ⟨_, ⟨keptC_eq, fun c a w _ => looks_run (hg c) ?_⟩, hr⟩
  simp only [opTmps, ho, Op.operands]
  show SlotF (atC c fs) a0 a w t → _
  intro hs
  unfold SlotF at hs
  rw [hf c] at hs
  have hs : a.tmps.getD t undef = a0.tmps.getD t undef := hs
  show Oper.wp P o a w _ Q
  simp only [Oper.wp, execOp, ho]
  exact ⟨a.tmps.getD t undef, by rw [hd]; rfl, hrf w, hs.trans hX⟩
/-- a step that makes memory, at most, and that stands between two changes -/
theorem wpZ_callA (I : PredC) (he : eff.contains d = false) (ha : anc.contains d = true) (hg : Runs (atC k fs) g) (hd : o.dst = some d) (hm : KeptC R0 (fun _ => R) I)
    (h : ∀ (a : Act) (w : World), R w0 w → S w → LooksF (atC k fs) a0 a w (opTmps o) (∀ K : Act → World → Prop, (∀ v w', R0 w w' → I k v w' → K (a.put o.dst v) w') → o.wp P a w K Q))
    (hr : wpZ P Q R0 R a0 w0 eff anc k S rest ((d, I) :: fs)) : wpZ P Q R0 R a0 w0 eff anc k S (⟨d, o, g⟩ :: rest) fs := by
  unfold wpZ wpC
  rw [if_neg (by rw [he]; simp), if_pos ha]
  exact ⟨_, ⟨hm, fun a w hR hS => looks_run hg (looksF_mono (fun k => k _ fun v w' hR hI => ⟨v, by rw [hd], hR, hI⟩) _ (h a w hR hS))⟩, hr⟩
/-- one that changes the world -/
theorem wpZ_eff (I : PredC) (S' : World → Prop) (he : eff.contains d = true) (hg : Runs (atC k fs) g) (hd : o.dst = some d) (hm : KeptC R0 (fun _ => R) I) (hS : ∀ w w', S' w → R0 w w' → S' w')
    (h : ∀ (a : Act) (w : World), R w0 w → S w → LooksF (atC k fs) a0 a w (opTmps o) (∀ K : Act → World → Prop, (∀ v w', R w w' → S' w' → I (k + 1) v w' → K (a.put o.dst v) w') → o.wp P a w K Q))
    (hr : wpZ P Q R0 R a0 w0 eff anc (k + 1) S' rest ((d, I) :: fs)) : wpZ P Q R0 R a0 w0 eff anc k S (⟨d, o, g⟩ :: rest) fs := by
  unfold wpZ wpC
  rw [if_pos he]
  exact ⟨_, S', hS, ⟨hm, fun a w hR hs => looks_run hg (looksF_mono (fun k => k _ fun v w' hR hS' hI => ⟨v, by rw [hd], hR, hR, hS', hI⟩) _ (h a w hR hs))⟩, hr⟩
end
attribute [irreducible] wpZ
end Go.Ox
namespace Go.Ox
open Go.RowKit
section
variable {P : Program} {ops : Array Oper} {Q : Exit → Act → World → Prop} {R0 R : World → World → Prop} {a0 : Act} {w0 : World}
unseal wpZ in
theorem wpZ_open {eff anc : List Tmp} {k : Nat} {S : World → Prop} {l : List Planned} {fs : List (Tmp × PredC)} (h : wpZ P Q R0 R a0 w0 eff anc k S l fs) : wpC P Q R0 R (fun _ => R) a0 w0 eff anc k S l fs := h
theorem wpAny_region_effC {a : Act} {w : World} {ps : List Planned} (eff anc : List Tmp) (R0 R : World → World → Prop) (E : Nat → World → World → Prop) (S : World → Prop)
    (hplan : planOf ops ops.toList = some ps) {n : Nat} (hn : a.tmps.size = n) (hok : planOk n ps = true) (hch : chained (masks ps []) (effIx eff ps 0) = true) (han : anchored (masks ps []) (effIx eff ps 0) (ancIx eff anc ps 0 0) = true)
    (htr : ∀ a b c, R a b → R b c → R a c) (hrf : ∀ a, R a a) (h0R : ∀ a b, R0 a b → R a b) (h0rf : ∀ a, R0 a a) (hdr : R0 w w.drew) (hS0 : ∀ w w', S w → R0 w w' → S w') (hS : S w)
    (h : wpC P Q R0 R E a w eff anc 0 S ps []) : wpAny P .any ops Q ops.size (Array.replicate ops.size false) a w.drew := by
  subst hn
  obtain ⟨Is, Ss, h1, h2, h3, h4, h5, h5a, h6, T, h7, h8⟩ := wpC_parts _ _ _ _ hS0 h
  have hlen : ops.size = ps.length := by simpa using ((planOf_spec _ _ hplan).1).symm
  refine wpAny_of_effC (E := E) (R0 := R0) (eff := eff) (anc := anc) h1 hplan hok hch han htr hrf h0R h0rf h4 h2 (fun j p I hp hI he ha => by simpa using h5 j p I hp hI he ha) (fun j p I hp hI he ha => by simpa using h5a j p I hp hI he ha) (fun j p I hp hI he => by simpa using h6 j p I hp hI he) (effIx_spec eff ps) ⟨T, h7, fun w' hw' hT => by simpa using h8 w' hw' hT⟩ _ _ _ _ ⟨0, S, h3, hS0 _ _ hS hdr, fun i j _ hi => by omega, fun i j hi _ => ?_, ?_⟩ ?_
  · have hjl : j < ops.size := by
      rw [hlen]
      have : j ∈ effIx eff ps 0 := List.mem_of_getElem? hi
      have hlt : ∀ (l : List Planned) (n : Nat), ∀ x ∈ effIx eff l n, x < n + l.length := by
        intro l
        induction l with
        | nil => intro n x hx; simp [effIx] at hx
        | cons q l ih =>
          intro n x hx
          unfold effIx at hx
          split at hx
          · rcases List.mem_cons.1 hx with rfl | hx
            · simp
            · have := ih _ _ hx; simp; omega
          · have := ih _ _ hx; simp; omega
      simpa using hlt ps 0 j this
    simp [Array.getD, hjl]
  · refine ⟨by simp [hlen], h0R _ _ hdr, rfl, rfl, ?_, ?_, fun t _ => rfl⟩
    · intro j p hp hj
      have hjl : j < ops.size := by
        rw [hlen]
        rcases Nat.lt_or_ge j ps.length with h | h
        · exact h
        · rw [List.getElem?_eq_none h] at hp; cases hp
      simp [Array.getD, hjl] at hj
    · intro j p I hp hI hj
      have hjl : j < ops.size := by
        rw [hlen]
        rcases Nat.lt_or_ge j ps.length with h | h
        · exact h
        · rw [List.getElem?_eq_none h] at hp; cases hp
      simp [Array.getD, hjl] at hj
  · simp [unlisted, List.countP_replicate, hlen]
theorem wp_region_tailZ {id : Nat} {a : Act} {w : World} {ps : List Planned} (k : Nat) (eff anc : List Tmp) (R0 R : World → World → Prop) (S : World → Prop) (hm : P.follows .mixedOrders = true)
    (hn0 : decide (k < ops.size) = true) (hs : Region.sinkB .any ops k = true) (hc : Region.chainB .any ops k = true) (hg : guardsIn ops k = true) (hb : edgesBack ops k = true)
    (hq : Region.seqB .any ops (ops.size - k) k (Array.replicate k true ++ Array.replicate (ops.size - k) false) = true)
    (hplan : planOf (ops.extract 0 k) (ops.extract 0 k).toList = some ps) {n : Nat} (hn : a.tmps.size = n) (hok : planOk n ps = true) (hch : chained (masks ps []) (effIx eff ps 0) = true) (han : anchored (masks ps []) (effIx eff ps 0) (ancIx eff anc ps 0 0) = true)
    (htr : ∀ a b c, R a b → R b c → R a c) (hrf : ∀ a, R a a) (h0R : ∀ a b, R0 a b → R a b) (h0rf : ∀ a, R0 a a) (hdr : R0 w w.drew) (hS0 : ∀ w w', S w → R0 w w' → S w') (hS : S w)
    (h : wpZ P (thenTail P ops k Q) R0 R a w eff anc 0 S ps []) : (Code.region id ops true).wp P Q a w := by
  refine wp_region_any hm ?_
  have hk : k < ops.size := of_decide_eq_true hn0
  have h1 := wpAny_region_effC eff anc R0 R _ S hplan hn hok hch han htr hrf h0R h0rf hdr hS0 hS (wpZ_open h)
  rw [head_size hk] at h1
  have inv0 : HeadInv .any ops k (Array.replicate ops.size false) :=
    ⟨by simp, fun j oj _ hl => (by rw [getD_replicate_false] at hl; cases hl), fun t _ ht => getD_in (by simpa using ht) (getD_replicate_false _ _)⟩
  have h2 := wpAny_tail hk hs hc hg hb hq k (Array.replicate k false) (Array.replicate ops.size false) a w.drew inv0 (by simp) (fun j hj => by
    rw [getD_in (by simp; omega) (getD_replicate_false _ _), getD_in (by simpa using hj) (getD_replicate_false _ _)]) (by simp [unlisted, List.countP_replicate]) h1
  rw [show k + (ops.size - k) = ops.size by omega] at h2
  exact h2
variable {E : Nat → World → World → Prop}
/-- a fact from the change n on, until the next one -/
theorem keptC_at {I : Pred} {n : Nat} (hm : ∀ v w w', I v w → R0 w w' → I v w') : KeptC R0 E (fun c v w => n ≤ c ∧ (c ≤ n → I v w)) :=
  ⟨fun c v w w' h hR => ⟨h.1, fun hc => hm v w w' (h.2 hc) hR⟩, fun c v w w' h _ => ⟨by have := h.1; omega, fun hc => by have := h.1; omega⟩⟩
/-- a fact until the first change -/
theorem keptC_0 {I : Pred} (hm : ∀ v w w', I v w → R0 w w' → I v w') : KeptC R0 E (fun c v w => c ≤ 0 → I v w) := keptC_till hm fun c hc => by omega
end
end Go.Ox
namespace Go.Ox
open Go.RowKit
section
variable {P : Program} {Q : Exit → Act → World → Prop} {R0 R : World → World → Prop} {a0 : Act} {w0 : World} {S : World → Prop} {eff anc : List Tmp} {rest : List Planned} {fs : List (Tmp × Pred)} {d t : Tmp} {o : Oper} {g : GuardS}
unseal wpY in
theorem wpY_assign {I : Pred} (ho : o.op = .assign (.tmp t)) (hd : o.dst = some d) (hf : (fs.find? (fun f => f.1 == t)) = some (t, I)) (he : eff.contains d = false) (ha : anc.contains d = false) (hg : Runs fs g) (hrf : ∀ w, R0 w w) (hm : ∀ v w w', I v w → R w w' → I v w')
    (hr : wpY P Q R0 R a0 w0 eff anc S rest ((d, I) :: fs)) : wpY P Q R0 R a0 w0 eff anc S (⟨d, o, g⟩ :: rest) fs := by
  refine wpE_pure he ha _ ⟨hm, fun a w _ => looks_run hg ?_⟩ hr
  simp only [opTmps, ho, Op.operands]
  show SlotF fs a0 a w t → _
  intro hs
  unfold SlotF at hs
  rw [hf] at hs
  show Oper.wp P o a w _ Q
  simp only [Oper.wp, execOp, ho]
  exact ⟨a.tmps.getD t undef, by rw [hd]; rfl, hrf w, hs⟩
end
end Go.Ox
