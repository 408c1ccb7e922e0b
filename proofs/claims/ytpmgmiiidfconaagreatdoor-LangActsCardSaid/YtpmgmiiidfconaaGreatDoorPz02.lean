/-
  Mem, packed: what the claim needs of them.
-/
import Derived.RegionTactic
import Derived.Below
import Derived.WalkKit
import Derived.Laws.BytesArg
import Derived.Deep.Draws
import Derived.Maps.AppendAt
import Derived.Laws.CopyOwn
import Derived.Lib.Hide
import Derived.Lib.AppendZeros
import Derived.Lib.SlBytesConst
import Derived.OwnWalk
import Derived.WalkSpells
import Derived.WalkLawsBesides
import Derived.Deep.QuietTactic
import Derived.BigQuiet
namespace Go.Ox
open Go.RowKit
abbrev Pred := Value → World → Prop
/-- The slot that a guard looks at, and what it wants. -/
abbrev GuardS := Option (Tmp × Bool)
def wantedS (g : GuardS) (a : Act) : Bool :=
  match g with
  | none => true
  | some (d, b) => match a.tmps.getD d undef with
    | .bool c => c == b
    | _ => false
def opTmps (o : Oper) : List Tmp := o.op.operands.toList.filterMap fun | .tmp t => some t | _ => none
/-- What is known of slot t: what the last writer ahead leaves, else what the frame held. -/
def SlotF (fs : List (Tmp × Pred)) (a0 a : Act) (w : World) (t : Tmp) : Prop :=
  match fs.find? (fun f => f.1 == t) with
  | some f => f.2 (a.tmps.getD t undef) w
  | none => a.tmps.getD t undef = a0.tmps.getD t undef
def LooksF (fs : List (Tmp × Pred)) (a0 a : Act) (w : World) : List Tmp → Prop → Prop
  | [], G => G
  | t :: ts, G => SlotF fs a0 a w t → LooksF fs a0 a w ts G
theorem LooksF.use {fs : List (Tmp × Pred)} {a0 a : Act} {w : World} {G : Prop} : ∀ {ts : List Tmp}, LooksF fs a0 a w ts G → (∀ t ∈ ts, SlotF fs a0 a w t) → G
  | [], h, _ => h
  | _ :: _, h, k => LooksF.use (h (k _ (List.mem_cons_self ..))) fun t ht => k t (List.mem_cons_of_mem _ ht)
def FinV (G : Act → Prop) (w : World) : List (Tmp × Pred) → Act → Prop
  | [], a => G a
  | (d, I) :: l, a => ∀ v, I v w → FinV G w l (a.put (some d) v)
/-- one operation of the plan -/
structure Planned where
  d : Tmp
  o : Oper
  g : GuardS
def Planned.looks (p : Planned) : List Tmp := opTmps p.o ++ (match p.g with | some (d, _) => [d] | none => [])
/-- what one operation owes -/
def Owes (P : Program) (Q : Exit → Act → World → Prop) (R : World → World → Prop) (a0 : Act) (w0 : World) (fs : List (Tmp × Pred)) (p : Planned) (I : Pred) : Prop :=
  (∀ v w w', I v w → R w w' → I v w') ∧
  ∀ (a : Act) (w : World), R w0 w → LooksF fs a0 a w p.looks
    (if wantedS p.g a = true then p.o.wp P a w (fun a' w' => ∃ v, a' = a.put (some p.d) v ∧ R w w' ∧ I v w') Q else I undef w)
def wpM (P : Program) (Q : Exit → Act → World → Prop) (R : World → World → Prop) (a0 : Act) (w0 : World) : List Planned → List (Tmp × Pred) → Prop
  | [], fs => ∀ w, R w0 w → FinV (fun a => Q .normal a w) w fs.reverse a0
  | p :: rest, fs => ∃ I : Pred, Owes P Q R a0 w0 fs p I ∧ wpM P Q R a0 w0 rest ((p.d, I) :: fs)
/-- The plan of a region: none where an operation writes no slot, or a guard names none. -/
def planOf (ops : Array Oper) : List Oper → Option (List Planned)
  | [] => some []
  | o :: l =>
    match o.dst, planOf ops l with
    | some d, some r =>
      match o.guard with
      | none => some (⟨d, o, none⟩ :: r)
      | some (j, b) => match (ops[j]?).bind (·.dst) with
        | some e => some (⟨d, o, some (e, b)⟩ :: r)
        | none => none
    | _, _ => none
def edgeTo (o : Oper) (k : Nat) : Bool := o.after.any fun e => Region.binds .any e && e.on == k
/-- what the proof asks of a plan's edges -/
def planOk (n : Nat) (ps : List Planned) : Bool :=
  ps.zipIdx.all fun (p, j) =>
    decide (p.d < n) &&
    p.o.after.all (fun e => !Region.binds .any e || decide (e.on < j)) &&
    ps.zipIdx.all fun (q, k) =>
      (k == j || (p.d != q.d && (!p.looks.contains q.d || (if k < j then edgeTo p.o k else edgeTo q.o j))))
section
variable {P : Program} {ops : Array Oper} {Q : Exit → Act → World → Prop} {R : World → World → Prop} {a0 : Act} {w0 : World}
theorem planOf_spec : ∀ (l : List Oper) (ps : List Planned), planOf ops l = some ps → ps.length = l.length ∧
    ∀ (j : Nat) (p : Planned), ps[j]? = some p → l[j]? = some p.o ∧ p.o.dst = some p.d ∧ (match p.o.guard with | none => p.g = none | some (k, b) => ∃ e, (ops[k]?).bind (·.dst) = some e ∧ p.g = some (e, b))
  | [], ps, h => by
    simp [planOf] at h; subst h; simp
  | o :: l, ps, h => by
    simp only [planOf] at h
    split at h
    · rename_i d r hd hr
      obtain ⟨hl, hk⟩ := planOf_spec l r hr
      split at h
      · rename_i hg
        injection h with h; subst h
        refine ⟨by simp [hl], fun j p hp => ?_⟩
        cases j with
        | zero => simp at hp; subst hp; simp [hd, hg]
        | succ j => simpa using hk j p (by simpa using hp)
      · rename_i k b hg
        split at h
        · rename_i e he
          injection h with h; subst h
          refine ⟨by simp [hl], fun j p hp => ?_⟩
          cases j with
          | zero => simp at hp; subst hp; simp [hd, hg, he]
          | succ j => simpa using hk j p (by simpa using hp)
        · cases h
    · cases h
theorem wanted_planned {p : Planned} (hg : match p.o.guard with | none => p.g = none | some (k, b) => ∃ e, (ops[k]?).bind (·.dst) = some e ∧ p.g = some (e, b)) (a : Act) :
    Region.wanted p.o (yielded ops a.tmps) = wantedS p.g a := by
  unfold Region.wanted wantedS
  cases h : p.o.guard with
  | none => rw [h] at hg; rw [hg]
  | some kb =>
    obtain ⟨k, b⟩ := kb
    rw [h] at hg
    obtain ⟨e, he, hg⟩ := hg
    rw [hg]
    simp only [yielded, he, Option.bind_some, Array.getD_eq_getD_getElem?]
    cases a.tmps[e]? with
    | none => rfl
    | some v => cases v <;> simp
/-- the facts known ahead of operation j -/
def factsAt (ps : List Planned) (Is : List Pred) (j : Nat) : List (Tmp × Pred) := (((ps.map (·.d)).zip Is).take j).reverse
theorem wpM_parts : ∀ (l : List Planned) (fs : List (Tmp × Pred)), wpM P Q R a0 w0 l fs → ∃ Is : List Pred, Is.length = l.length ∧
    (∀ (j : Nat) (p : Planned) (I : Pred), l[j]? = some p → Is[j]? = some I → Owes P Q R a0 w0 (factsAt l Is j ++ fs) p I) ∧
    ∀ w, R w0 w → FinV (fun a => Q .normal a w) w (fs.reverse ++ ((l.map (·.d)).zip Is)) a0
  | [], fs, h => ⟨[], rfl, by simp, by simpa [wpM] using h⟩
  | p :: l, fs, h => by
    obtain ⟨I, ho, hr⟩ := h
    obtain ⟨Is, hl, hk, hf⟩ := wpM_parts l _ hr
    refine ⟨I :: Is, by simp [hl], fun j q J hq hJ => ?_, fun w hw => by simpa using hf w hw⟩
    cases j with
    | zero => simp at hq hJ; subst hq hJ; simpa [factsAt] using ho
    | succ j =>
      have := hk j q J (by simpa using hq) (by simpa using hJ)
      simpa [factsAt, List.append_assoc] using this
theorem size_put (a : Act) (d : Tmp) (v : Value) : (a.put (some d) v).tmps.size = a.tmps.size := by simp [Act.put]
theorem getD_put_same (a : Act) (d : Tmp) (v : Value) (h : d < a.tmps.size) : (a.put (some d) v).tmps.getD d undef = v := by
  simp [Act.put, Array.getD, h]
theorem getD_put_ne (a : Act) (d t : Tmp) (v : Value) (h : d ≠ t) : (a.put (some d) v).tmps.getD t undef = a.tmps.getD t undef := by
  simp [Act.put, Array.getElem?_setIfInBounds_ne h]
theorem tmps_ext {x y : Array Value} (hs : x.size = y.size) (h : ∀ t, x.getD t undef = y.getD t undef) : x = y := by
  apply Array.ext hs
  intro i h1 h2
  have := h i
  simpa [Array.getD, h1, h2] using this
/-- the end: all slots are as their predicates say -/
theorem finV_use {G : Act → Prop} {w : World} : ∀ (l : List (Tmp × Pred)) (b a : Act), FinV G w l b → b.tmps.size = a.tmps.size → b.defers = a.defers →
    (∀ f ∈ l, f.1 < a.tmps.size ∧ f.2 (a.tmps.getD f.1 undef) w) → (∀ t, (∀ f ∈ l, f.1 ≠ t) → a.tmps.getD t undef = b.tmps.getD t undef) → G a
  | [], b, a, h, hs, hd, _, hn => by
    have : a = b := by
      cases a; cases b
      simp only [Act.mk.injEq]
      refine ⟨tmps_ext hs.symm fun t => hn t (by simp), hd.symm⟩
    rw [this]; exact h
  | (d, I) :: l, b, a, h, hs, hd, hk, hn => by
    obtain ⟨h1, h2⟩ := hk (d, I) (List.mem_cons_self ..)
    refine finV_use l _ a (h _ h2) (by rw [size_put]; exact hs) (by simpa [Act.put] using hd) (fun f hf => hk f (List.mem_cons_of_mem _ hf)) fun t ht => ?_
    by_cases he : d = t
    · subst he; rw [getD_put_same _ _ _ (by rw [hs]; exact h1)]
    · rw [getD_put_ne _ _ _ _ he]
      exact hn t fun f hf => by
        rcases List.mem_cons.1 hf with rfl | hf
        · exact he
        · exact ht f hf
structure Inv (R : World → World → Prop) (ps : List Planned) (Is : List Pred) (a0 : Act) (w0 : World) (listed : Array Bool) (a : Act) (w : World) : Prop where
  size : listed.size = ps.length
  world : R w0 w
  defers : a.defers = a0.defers
  tsize : a.tmps.size = a0.tmps.size
  closed : ∀ (j : Nat) (p : Planned), ps[j]? = some p → listed.getD j true = true → ∀ e ∈ p.o.after, Region.binds .any e = true → listed.getD e.on false = true
  fact : ∀ (j : Nat) (p : Planned) (I : Pred), ps[j]? = some p → Is[j]? = some I → listed.getD j true = true → I (a.tmps.getD p.d undef) w
  other : ∀ t, (∀ (j : Nat) (p : Planned), ps[j]? = some p → listed.getD j true = true → p.d ≠ t) → a.tmps.getD t undef = a0.tmps.getD t undef
theorem planOk_spec {n : Nat} {ps : List Planned} (h : planOk n ps = true) {j : Nat} {p : Planned} (hj : ps[j]? = some p) :
    p.d < n ∧ (∀ e ∈ p.o.after, Region.binds .any e = true → e.on < j) ∧
    ∀ (k : Nat) (q : Planned), ps[k]? = some q → k ≠ j → p.d ≠ q.d ∧ (q.d ∈ p.looks → if k < j then edgeTo p.o k = true else edgeTo q.o j = true) := by
  simp only [planOk, List.all_eq_true] at h
  have h1 := h (p, j) (by rw [List.mem_zipIdx_iff_getElem?]; exact hj)
  simp only [Bool.and_eq_true, decide_eq_true_eq, List.all_eq_true, Array.all_eq_true_iff_forall_mem, Bool.or_eq_true, Bool.not_eq_true'] at h1
  obtain ⟨⟨h1, h2⟩, h3⟩ := h1
  refine ⟨h1, fun e he hb => ?_, fun k q hq hne => ?_⟩
  · rcases h2 e he with h | h
    · rw [hb] at h; cases h
    · exact h
  · have := h3 (q, k) (by rw [List.mem_zipIdx_iff_getElem?]; exact hq)
    simp only [beq_iff_eq, bne_iff_ne, ne_eq] at this
    rcases this with h | ⟨h4, h5⟩
    · exact absurd h hne
    · refine ⟨h4, fun hm => ?_⟩
      rcases h5 with h | h
      · exact absurd (List.contains_iff_mem.2 hm) (by rw [h]; simp)
      · split <;> rename_i hlt <;> simpa [hlt] using h
theorem edgeTo_spec {o : Oper} {k : Nat} (h : edgeTo o k = true) : ∃ e ∈ o.after, Region.binds .any e = true ∧ e.on = k := by
  simp only [edgeTo, Array.any_eq_true'] at h
  obtain ⟨e, he, h⟩ := h
  simp only [Bool.and_eq_true, beq_iff_eq] at h
  exact ⟨e, he, h⟩
theorem getD_true_iff {listed : Array Bool} {j : Nat} (h : j < listed.size) : listed.getD j true = listed.getD j false := by simp [Array.getD, h]
theorem find_factsAt {ps : List Planned} {Is : List Pred} (hl : Is.length = ps.length) (j : Nat) (t : Tmp) :
    (∃ (k : Nat) (q : Planned) (I : Pred), k < j ∧ ps[k]? = some q ∧ Is[k]? = some I ∧ q.d = t ∧ (factsAt ps Is j).find? (fun f => f.1 == t) = some (t, I)) ∨
    ((∀ (k : Nat) (q : Planned), k < j → ps[k]? = some q → q.d ≠ t) ∧ (factsAt ps Is j).find? (fun f => f.1 == t) = none) := by
  cases hf : (factsAt ps Is j).find? (fun f => f.1 == t) with
  | none =>
    right
    refine ⟨fun k q hk hq he => ?_, rfl⟩
    have hkl : k < ps.length := by
      rcases Nat.lt_or_ge k ps.length with h | h
      · exact h
      · rw [List.getElem?_eq_none h] at hq; cases hq
    rw [List.find?_eq_none] at hf
    have hI : Is[k]? = some (Is[k]'(by omega)) := List.getElem?_eq_getElem (by omega)
    refine hf (q.d, Is[k]'(by omega)) ?_ (by simp [he])
    simp only [factsAt, List.mem_reverse]
    rw [List.mem_iff_getElem?]
    refine ⟨k, ?_⟩
    rw [List.getElem?_take_of_lt hk, List.getElem?_zip_eq_some]
    exact ⟨by simp [hq], hI⟩
  | some f =>
    left
    have h1 := List.mem_of_find?_eq_some hf
    have h2 := List.find?_some hf
    simp only [factsAt, List.mem_reverse] at h1
    rw [List.mem_iff_getElem?] at h1
    obtain ⟨k, hk⟩ := h1
    have hkj : k < j := by
      rcases Nat.lt_or_ge k j with h | h
      · exact h
      · rw [List.getElem?_take_eq_none h] at hk; cases hk
    rw [List.getElem?_take_of_lt hkj, List.getElem?_zip_eq_some] at hk
    obtain ⟨hk1, hk2⟩ := hk
    simp only [List.getElem?_map, Option.map_eq_some_iff] at hk1
    obtain ⟨q, hq, hqd⟩ := hk1
    refine ⟨k, q, f.2, hkj, hq, hk2, ?_, ?_⟩
    · rw [hqd]; simpa using h2
    · have : f.1 = t := by simpa using h2
      rw [← this]
theorem all_listed {ps : List Planned} {listed : Array Bool} (hp : ∀ (j : Nat) (p : Planned), ps[j]? = some p → ops[j]? = some p.o)
    (hb : ∀ (j : Nat) (p : Planned), ps[j]? = some p → ∀ e ∈ p.o.after, Region.binds .any e = true → e.on < j) (hs : listed.size = ps.length)
    (hr : Region.ready .any ops listed = []) : ∀ j, j < ps.length → listed.getD j false = true := by
  intro j
  induction j using Nat.strongRecOn with
  | ind j ih =>
    intro hj
    have hpj : ps[j]? = some ps[j] := List.getElem?_eq_getElem hj
    cases hl : listed.getD j true with
    | true => rwa [getD_true_iff (by omega)] at hl
    | false =>
      exfalso
      have : j ∈ Region.ready .any ops listed := mem_ready.2 ⟨hl, _, hp j _ hpj, fun e he hbe => ih e.on (hb j _ hpj e he hbe) (by have := hb j _ hpj e he hbe; omega)⟩
      rw [hr] at this
      cases this
theorem slotF_of_inv {ps : List Planned} {Is : List Pred} {n : Nat} (hl : Is.length = ps.length) (hok : planOk n ps = true) {listed : Array Bool} {a : Act} {w : World}
    (h : Inv R ps Is a0 w0 listed a w) {j : Nat} {p : Planned} (hj : ps[j]? = some p) (hun : listed.getD j true = false)
    (hall : ∀ e ∈ p.o.after, Region.binds .any e = true → listed.getD e.on false = true) (t : Tmp) (ht : t ∈ p.looks) : SlotF (factsAt ps Is j) a0 a w t := by
  have hjl : j < ps.length := by
    rcases Nat.lt_or_ge j ps.length with h | h
    · exact h
    · rw [List.getElem?_eq_none h] at hj; cases hj
  unfold SlotF
  rcases find_factsAt (Is := Is) hl j t with ⟨k, q, I, hk, hq, hI, hqt, hf⟩ | ⟨hno, hf⟩
  · rw [hf]
    show I (a.tmps.getD t undef) w
    rw [← hqt]
    refine h.fact k q I hq hI ?_
    have := ((planOk_spec hok hj).2.2 k q hq (by omega)).2 (by rw [hqt]; exact ht)
    rw [if_pos hk] at this
    obtain ⟨e, he, hb, hon⟩ := edgeTo_spec this
    have := hall e he hb
    rw [hon] at this
    rw [getD_true_iff (by have := h.size; omega)]
    exact this
  · rw [hf]
    refine h.other t fun k q hq hlk he => ?_
    rcases Nat.lt_trichotomy k j with hlt | heq | hgt
    · exact hno k q hlt hq he
    · subst heq; rw [hlk] at hun; cases hun
    · have := ((planOk_spec hok hj).2.2 k q hq (by omega)).2 (by rw [he]; exact ht)
      rw [if_neg (by omega)] at this
      obtain ⟨e, hme, hb, hon⟩ := edgeTo_spec this
      have := h.closed k q hq hlk e hme hb
      rw [hon] at this
      rw [getD_true_iff (by have := h.size; omega), this] at hun
      cases hun
theorem inv_step {ps : List Planned} {Is : List Pred} (hok : planOk a0.tmps.size ps = true) (htr : ∀ a b c, R a b → R b c → R a c)
    (hmono : ∀ (j : Nat) (I : Pred), Is[j]? = some I → ∀ v w w', I v w → R w w' → I v w') {listed : Array Bool} {a : Act} {w w' : World}
    (h : Inv R ps Is a0 w0 listed a w) {j : Nat} {p : Planned} {I : Pred} (hj : ps[j]? = some p) (hI : Is[j]? = some I) (hun : listed.getD j true = false)
    (hall : ∀ e ∈ p.o.after, Region.binds .any e = true → listed.getD e.on false = true) (hR : R w w') {v : Value} (hv : I v w') :
    Inv R ps Is a0 w0 (listed.setIfInBounds j true) (a.put (some p.d) v) w' := by
  have hjl : j < listed.size := by
    rcases Nat.lt_or_ge j listed.size with h' | h'
    · exact h'
    · simp [Array.getElem?_eq_none h'] at hun
  have hset : ∀ k, k ≠ j → (listed.setIfInBounds j true).getD k true = listed.getD k true := fun k hk => getD_set_ne true (Ne.symm hk)
  have hd := (planOk_spec hok hj).1
  refine ⟨by simpa using h.size, htr _ _ _ h.world hR, by simpa [Act.put] using h.defers, by rw [size_put]; exact h.tsize, ?_, ?_, ?_⟩
  · intro k q hq hk e he hb
    by_cases hkj : k = j
    · subst hkj
      rw [hj] at hq; injection hq with hq; subst hq
      exact getD_set_true (hall e he hb)
    · rw [hset k hkj] at hk
      exact getD_set_true (h.closed k q hq hk e he hb)
  · intro k q J hq hJ hk
    by_cases hkj : k = j
    · subst hkj
      rw [hj] at hq; injection hq with hq; subst hq
      rw [hI] at hJ; injection hJ with hJ; subst hJ
      rw [getD_put_same _ _ _ (by rw [h.tsize]; exact hd)]
      exact hv
    · rw [hset k hkj] at hk
      rw [getD_put_ne _ _ _ _ (((planOk_spec hok hj).2.2 k q hq hkj).1)]
      exact hmono k J hJ _ _ _ (h.fact k q J hq hJ hk) hR
  · intro t ht
    have hpt : p.d ≠ t := ht j p hj (by simp [Array.getD, hjl])
    rw [getD_put_ne _ _ _ _ hpt]
    refine h.other t fun k q hq hk => ?_
    by_cases hkj : k = j
    · subst hkj; rw [hk] at hun; cases hun
    · exact ht k q hq (by rw [hset k hkj]; exact hk)
theorem inv_end {ps : List Planned} {Is : List Pred} (hl : Is.length = ps.length) (hok : planOk a0.tmps.size ps = true) {listed : Array Bool} {a : Act} {w : World}
    (h : Inv R ps Is a0 w0 listed a w) (hall : ∀ j, j < ps.length → listed.getD j false = true) {G : Act → Prop} (hf : FinV G w ((ps.map (·.d)).zip Is) a0) : G a := by
  refine finV_use _ a0 a hf h.tsize.symm h.defers.symm (fun f hf => ?_) fun t ht => h.other t fun j p hj _ he => ?_
  · rw [List.mem_iff_getElem?] at hf
    obtain ⟨k, hk⟩ := hf
    rw [List.getElem?_zip_eq_some] at hk
    obtain ⟨hk1, hk2⟩ := hk
    simp only [List.getElem?_map, Option.map_eq_some_iff] at hk1
    obtain ⟨q, hq, hqd⟩ := hk1
    have hkl : k < ps.length := by
      rcases Nat.lt_or_ge k ps.length with h | h
      · exact h
      · rw [List.getElem?_eq_none h] at hq; cases hq
    rw [← hqd]
    refine ⟨by rw [h.tsize]; exact (planOk_spec hok hq).1, h.fact k q f.2 hq hk2 ?_⟩
    rw [getD_true_iff (by have := h.size; omega)]
    exact hall k hkl
  · have hjl : j < ps.length := by
      rcases Nat.lt_or_ge j ps.length with h | h
      · exact h
      · rw [List.getElem?_eq_none h] at hj; cases hj
    have hI : Is[j]? = some (Is[j]'(by omega)) := List.getElem?_eq_getElem (by omega)
    refine ht (p.d, Is[j]'(by omega)) ?_ he
    rw [List.mem_iff_getElem?]
    exact ⟨j, by rw [List.getElem?_zip_eq_some]; exact ⟨by simp [hj], hI⟩⟩
def unlisted (listed : Array Bool) : Nat := listed.toList.countP (fun b => !b)
theorem count_set : ∀ (l : List Bool) (j : Nat), l[j]? = some false → (l.set j true).countP (fun b => !b) + 1 = l.countP (fun b => !b)
  | [], j, h => by simp at h
  | b :: l, 0, h => by simp at h; subst h; simp
  | b :: l, j + 1, h => by
    have := count_set l j (by simpa using h)
    simp only [List.set_cons_succ, List.countP_cons]
    omega
theorem unlisted_set {listed : Array Bool} {j : Nat} (h : listed.getD j true = false) : unlisted (listed.setIfInBounds j true) + 1 = unlisted listed := by
  have hjl : j < listed.size := by
    rcases Nat.lt_or_ge j listed.size with h' | h'
    · exact h'
    · simp [Array.getElem?_eq_none h'] at h
  unfold unlisted
  rw [Array.toList_setIfInBounds]
  refine count_set _ _ ?_
  simp [Array.getD, hjl] at h
  simp [hjl, h]
theorem unlisted_zero {listed : Array Bool} (h : unlisted listed = 0) {j : Nat} (hj : j < listed.size) : listed.getD j false = true := by
  unfold unlisted at h
  rw [List.countP_eq_zero] at h
  have := h listed[j] (by simp)
  simpa [Array.getD, hj] using this
theorem wpAny_of_mono {ps : List Planned} {Is : List Pred} (hl : Is.length = ps.length) (hplan : planOf ops ops.toList = some ps) (hok : planOk a0.tmps.size ps = true)
    (htr : ∀ a b c, R a b → R b c → R a c) (hrf : ∀ a, R a a)
    (ho : ∀ (j : Nat) (p : Planned) (I : Pred), ps[j]? = some p → Is[j]? = some I → Owes P Q R a0 w0 (factsAt ps Is j) p I)
    (hf : ∀ w, R w0 w → FinV (fun a => Q .normal a w) w ((ps.map (·.d)).zip Is) a0) :
    ∀ (fuel : Nat) (listed : Array Bool) (a : Act) (w : World), Inv R ps Is a0 w0 listed a w → unlisted listed = fuel → wpAny P .any ops Q fuel listed a w := by
  obtain ⟨hlen, hspec⟩ := planOf_spec _ _ hplan
  have hn : ops.size = ps.length := by simp [hlen]
  have hp : ∀ (j : Nat) (p : Planned), ps[j]? = some p → ops[j]? = some p.o := fun j p h => by simpa using (hspec j p h).1
  have hmono : ∀ (j : Nat) (I : Pred), Is[j]? = some I → ∀ v w w', I v w → R w w' → I v w' := fun j I hI => by
    have hjl : j < Is.length := by
      rcases Nat.lt_or_ge j Is.length with h | h
      · exact h
      · rw [List.getElem?_eq_none h] at hI; cases hI
    exact (ho j (ps[j]'(by omega)) I (List.getElem?_eq_getElem (by omega)) hI).1
  intro fuel
  induction fuel with
  | zero =>
    intro listed a w hinv hu
    have hall : ∀ j, j < ps.length → listed.getD j false = true := fun j hj => unlisted_zero hu (by rw [hinv.size]; exact hj)
    refine ⟨?_, inv_end hl hok hinv hall (hf w hinv.world)⟩
    rw [List.eq_nil_iff_forall_not_mem]
    intro j hj
    obtain ⟨h0, o, hoj, _⟩ := mem_ready.1 hj
    have hjl : j < ps.length := by
      rw [← hn]
      rcases Nat.lt_or_ge j ops.size with h | h
      · exact h
      · rw [Array.getElem?_eq_none h] at hoj; cases hoj
    rw [getD_true_iff (by rw [hinv.size]; exact hjl), hall j hjl] at h0
    cases h0
  | succ fuel ih =>
    intro listed a w hinv hu
    refine ⟨fun hr => ?_, fun j hj => ?_⟩
    · have hall := all_listed hp (fun j p h => (planOk_spec hok h).2.1) hinv.size hr
      exact inv_end hl hok hinv hall (hf w hinv.world)
    · obtain ⟨h0, o, hoj, hall⟩ := mem_ready.1 hj
      have hjl : j < ps.length := by
        rw [← hn]
        rcases Nat.lt_or_ge j ops.size with h | h
        · exact h
        · rw [Array.getElem?_eq_none h] at hoj; cases hoj
      have hpj : ps[j]? = some ps[j] := List.getElem?_eq_getElem hjl
      have hIj : Is[j]? = some (Is[j]'(by omega)) := List.getElem?_eq_getElem (by omega)
      have hoj' := hp j _ hpj
      rw [hoj] at hoj'; injection hoj' with hoj'; subst hoj'
      obtain ⟨_, hdst, hg⟩ := hspec j _ hpj
      have hob := (ho j _ _ hpj hIj).2 a w hinv.world
      have hob := hob.use (slotF_of_inv hl hok hinv hpj h0 hall)
      unfold wpOp
      rw [hoj]
      show if Region.wanted ps[j].o (yielded ops a.tmps) = true then _ else _
      rw [wanted_planned hg a]
      have hus := unlisted_set h0
      split
      · rename_i hw
        rw [if_pos hw] at hob
        refine .inl (Oper.wp_mono (fun a' w' hk => ?_) hob)
        obtain ⟨v, rfl, hR, hv⟩ := hk
        exact ih _ _ _ (inv_step hok htr hmono hinv hpj hIj h0 hall hR hv) (by omega)
      · rename_i hw
        rw [if_neg hw] at hob
        rw [hdst]
        exact ih _ _ _ (inv_step hok htr hmono hinv hpj hIj h0 hall (hrf w) hob) (by omega)
/-- **ONE WALK IN THE ORDER OF THE TEXT SERVES EVERY ORDER.** -/
theorem wp_region_mono {id : Nat} {a : Act} {w : World} {ps : List Planned} (R : World → World → Prop) (hm : P.follows .mixedOrders = true)
    (hplan : planOf ops ops.toList = some ps) {n : Nat} (hn : a.tmps.size = n) (hok : planOk n ps = true)
    (htr : ∀ a b c, R a b → R b c → R a c) (hrf : ∀ a, R a a) (hdr : R w w.drew)
    (h : wpM P Q R a w ps []) : (Code.region id ops true).wp P Q a w := by
  subst hn
  refine wp_region_any hm ?_
  obtain ⟨Is, hl, ho, hf⟩ := wpM_parts _ _ h
  have hlen : ops.size = ps.length := by simpa using ((planOf_spec _ _ hplan).1).symm
  refine wpAny_of_mono hl hplan hok htr hrf (fun j p I hp hI => by simpa using ho j p I hp hI) (fun w' hw' => by simpa using hf w' hw') _ _ _ _ ?_ ?_
  · refine ⟨by simp [hlen], hdr, rfl, rfl, ?_, ?_, fun t _ => rfl⟩
    · intro j p hp hj
      have hjl : j < ops.size := by
        rw [hlen]
        rcases Nat.lt_or_ge j ps.length with h | h
        · exact h
        · rw [List.getElem?_eq_none h] at hp; cases hp
      simp [Array.getD, hjl] at hj
    · intro j p I hp hI hj
      have hjl : j < ops.size := by
        rw [hlen]
        rcases Nat.lt_or_ge j ps.length with h | h
        · exact h
        · rw [List.getElem?_eq_none h] at hp; cases hp
      simp [Array.getD, hjl] at hj
  · simp [unlisted, List.countP_replicate, hlen]
end
end Go.Ox
namespace Go.Ox
open Go.RowKit
/-- a byte's number; shut to simp -/
@[irreducible] def n8 (b : UInt8) : Int := (b.toNat : Int)
def Ext (w w' : World) : Prop := Below w.heap.size w w'
theorem Ext.refl (w : World) : Ext w w := Below.refl _ _
theorem Ext.trans {a b c : World} (h : Ext a b) (k : Ext b c) : Ext a c := Below.trans h (Below.mono k h.size)
theorem Ext.drew {a b : World} (h : Ext a b) : Ext a b.drew := Below.drew h
theorem Ext.drewN {a b : World} (h : Ext a b) (n : Nat) : Ext a (b.drewN n) := Below.trans h ⟨rfl, rfl, rfl, Nat.le_refl _, fun _ _ => rfl⟩
theorem Ext.alloc {a b : World} (h : Ext a b) (o : Obj) : Ext a (b.alloc o) := Below.alloc h h.size o
theorem Ext.below {a b : World} (h : Ext a b) : Below a.heap.size a b := h
theorem Ext.grown {a b c : World} {row : Option Nat} (h : Ext a b) (hg : b.grownBy c row) (hr : ∀ k, row = some k → a.heap.size ≤ k) : Ext a c := Below.grown h hg h.size hr
theorem Ext.size {a b : World} (h : Ext a b) : a.heap.size ≤ b.heap.size := Below.size h
theorem Ext.cell {w w' : World} (h : Ext w w') {a : Addr} {v : Value} (hc : w.cell? a = some v) : w'.cell? a = some v := by
  rw [Below.cell h (World.block_lt_of_cell? w a hc)]; exact hc
theorem Ext.block {w w' : World} (h : Ext w w') {k : Nat} (hk : k < w.heap.size) : w'.heap[k]? = w.heap[k]? := Below.block h k hk
structure RdA (w : World) (size : Nat) (A : Option Addr) (n c : Nat) (xs : List Value) : Prop where
  len : xs.length = n * size
  nc : n ≤ c
  cm : c ≤ maxLen
  nil : A = none → c = 0
  at_ : ∀ ad, A = some ad → ∀ j u, xs[j]? = some u → ad.spot = none ∧ w.cell? ⟨ad.block, ad.off + j, none⟩ = some u
def Rd (w : World) (size : Nat) (v : Value) (n : Nat) (xs : List Value) : Prop := ∃ A c, v = .slice A n c ∧ RdA w size A n c xs
section
variable {w w' : World} {size n c : Nat} {A : Option Addr} {v : Value} {xs : List Value}
theorem RdA.ext (h : RdA w size A n c xs) (he : Ext w w') : RdA w' size A n c xs :=
  ⟨h.len, h.nc, h.cm, h.nil, fun ad ha j u hu => ⟨(h.at_ ad ha j u hu).1, he.cell (h.at_ ad ha j u hu).2⟩⟩
theorem Rd.ext (h : Rd w size v n xs) (he : Ext w w') : Rd w' size v n xs := by
  obtain ⟨A, c, rfl, h⟩ := h
  exact ⟨A, c, rfl, h.ext he⟩
theorem Rd.nil (w : World) (size : Nat) : Rd w size (.slice none 0 0) 0 [] :=
  ⟨none, 0, rfl, by simp, Nat.le_refl _, by unfold maxLen; omega, fun _ => rfl, fun ad h => by cases h⟩
/-- where there is an element there is an address -/
theorem RdA.addr (h : RdA w size A n c xs) (hn : 0 < n) (hs : 0 < size := by omega) : ∃ b o, A = some ⟨b, o, none⟩ := by
  cases A with
  | none => have := h.nil rfl; have := h.nc; omega
  | some ad =>
    obtain ⟨b, o, s⟩ := ad
    have h0 : 0 < xs.length := by rw [h.len]; exact Nat.mul_pos hn hs
    obtain ⟨hs, _⟩ := h.at_ _ rfl 0 _ (List.getElem?_eq_getElem h0)
    simp at hs; subst hs
    exact ⟨b, o, rfl⟩
theorem RdA.get {b o : Nat} (h : RdA w size (.some ⟨b, o, none⟩) n c xs) {j : Nat} {u : Value} (hu : xs[j]? = .some u) : w.cell? ⟨b, o + j, none⟩ = .some u := (h.at_ _ rfl j u hu).2
/-- 's[k:]' -/
theorem RdA.drop (h : RdA w size A n c xs) {k : Nat} (hk : k ≤ n) :
    RdA w size (if c = k then A else A.map (·.add (k * size))) (n - k) (c - k) (xs.drop (k * size)) := by
  refine ⟨by rw [List.length_drop, h.len, Nat.sub_mul], by have := h.nc; omega, by have := h.cm; omega, ?_, ?_⟩
  · intro he
    split at he
    · rename_i hc; have := h.nil he; omega
    · have : A = none := by cases A <;> simp_all
      have := h.nil this; omega
  · intro ad he j u hu
    split at he
    · rename_i hc
      exfalso
      have h1 := h.nc
      have : (xs.drop (k * size)).length = 0 := by rw [List.length_drop, h.len, ← Nat.sub_mul, show n - k = 0 by omega, Nat.zero_mul]
      rw [List.eq_nil_of_length_eq_zero this] at hu
      simp at hu
    · cases A with
      | none => simp at he
      | some a0 =>
        simp only [Option.map_some, Option.some.injEq] at he
        obtain ⟨hs, hcell⟩ := h.at_ a0 rfl (k * size + j) u (by rw [← hu, List.getElem?_drop])
        obtain ⟨b, o, s⟩ := a0
        simp at hs; subst hs
        have : ad = ⟨b, o + k * size, none⟩ := by rw [← he]; unfold Addr.add; split <;> simp_all
        subst this
        refine ⟨rfl, ?_⟩
        simpa [Nat.add_assoc] using hcell
/-- 's[:k]' -/
theorem RdA.take (h : RdA w size A n c xs) {k : Nat} (hk : k ≤ n) : RdA w size A k c (xs.take (k * size)) := by
  refine ⟨?_, by have := h.nc; omega, h.cm, h.nil, fun ad ha j u hu => h.at_ ad ha j u ?_⟩
  · rw [List.length_take, h.len, Nat.min_eq_left (Nat.mul_le_mul_right _ hk)]
  · rw [List.getElem?_take] at hu
    split at hu
    · exact hu
    · cases hu
theorem Rd.of_own {base : Nat} {e : TypeId} (h : w.ownsRow base e size v n xs) : Rd w size v n xs := by
  obtain ⟨hl, h2⟩ := h
  rcases h2 with ⟨rfl, rfl⟩ | ⟨g, cap, cur, rfl, hb, hh, hnc, hcm, hcs, hxs⟩
  · exact ⟨none, 0, rfl, hl, Nat.le_refl _, by unfold maxLen; omega, fun _ => rfl, fun ad h => by cases h⟩
  · refine ⟨.some ⟨g, 0, none⟩, cap, rfl, hl, hnc, hcm, (fun h => by cases h), fun ad ha j u hu => ?_⟩
    injection ha with ha; subst ha
    refine ⟨rfl, ?_⟩
    simp only [Nat.zero_add, World.cell?, hh]
    rw [← hxs, List.getElem?_take] at hu
    split at hu
    · simpa using hu
    · cases hu
end
def Blk (w : World) (g : Nat) (t : TypeId) (cs : Array Value) : Prop := w.heap[g]? = some (.cells cs t (0, 0))
section
variable {w w' : World} {g : Nat} {t : TypeId} {cs : Array Value}
theorem Blk.lt (h : Blk w g t cs) : g < w.heap.size := by
  rcases Nat.lt_or_ge g w.heap.size with hlt | hge
  · exact hlt
  · unfold Blk at h; rw [Array.getElem?_eq_none hge] at h; cases h
theorem Blk.cell (h : Blk w g t cs) (i : Nat) : w.cell? ⟨g, i, none⟩ = cs[i]? := cell_of_row w g i cs t (0, 0) h
theorem Blk.frozen (h : Blk w g t cs) (i : Nat) : w.frozen? ⟨g, i, none⟩ = false := by
  unfold Blk at h
  simp [World.frozen?, h]
theorem Blk.new (w : World) (t : TypeId) (cs : Array Value) : Blk (w.alloc (.cells cs t)) w.heap.size t cs := heap_alloc_new w _
theorem Blk.set_ (h : Blk w g t cs) (i : Nat) (u : Value) : Blk (w.setCell ⟨g, i, none⟩ u) g t (cs.setIfInBounds i u) := by
  unfold Blk at h ⊢
  simp [World.setCell, Array.getElem?_modify, h]
theorem Blk.ext (h : Blk w g t cs) (he : Ext w w') : Blk w' g t cs := (he.block h.lt).trans h
end
def byteV (b : UInt8) : Value := .int .u8 (n8 b)
/-- v is a slice that reads as the bytes l -/
def RB (w : World) (v : Value) (l : List UInt8) : Prop := Rd w 1 v l.length (l.map byteV)
/-- a slice of the call's own (made behind the world whose heap had 'base' blocks) that holds the bytes l -/
def OB (E base : Nat) (w : World) (v : Value) (l : List UInt8) : Prop := w.ownsRow base E 1 v l.length (l.map byteV)
theorem OB.rb {E base : Nat} {w : World} {v : Value} {l : List UInt8} (h : OB E base w v l) : RB w v l := Rd.of_own h
theorem ownsRow_low {w : World} {base base' : Nat} {E size n : Nat} {v : Value} {xs : List Value} (h : w.ownsRow base E size v n xs) (hb : base' ≤ base) : w.ownsRow base' E size v n xs := by
  obtain ⟨h1, h2⟩ := h
  refine ⟨h1, ?_⟩
  rcases h2 with h2 | ⟨g, cap, cur, hv, hg, r⟩
  · exact .inl h2
  · exact .inr ⟨g, cap, cur, hv, by omega, r⟩
/-- what was made earlier stays while the world goes on -/
theorem ownsRow_ext {w w' : World} {base : Nat} {E size n : Nat} {v : Value} {xs : List Value} (h : w.ownsRow base E size v n xs) (he : Ext w w') : w'.ownsRow base E size v n xs :=
  h.kept (row := none) ⟨he.os, he.tape, he.output, he.size, fun k hk _ => he.block hk⟩ (by cases v.ownBlock <;> simp)
theorem OB.ext {E base : Nat} {w w' : World} {v : Value} {l : List UInt8} (h : OB E base w v l) (he : Ext w w') : OB E base w' v l := ownsRow_ext h he
theorem RB.form {w : World} {v : Value} {l : List UInt8} (h : RB w v l) : ∃ A c, v = .slice A l.length c := by
  obtain ⟨A, c, h, _⟩ := h
  exact ⟨A, c, h⟩
theorem OB.form {E base : Nat} {w : World} {v : Value} {l : List UInt8} (h : OB E base w v l) : ∃ A c, v = .slice A l.length c := h.rb.form
theorem RB.rd {w : World} {v : Value} {l : List UInt8} (h : RB w v l) : Rd w 1 v l.length (l.map byteV) := h
theorem OB.own {E base : Nat} {w : World} {v : Value} {l : List UInt8} (h : OB E base w v l) : w.ownsRow base E 1 v l.length (l.map byteV) := h
structure Elem (P : Program) (t e : TypeId) (z : Value) (size bytes : Nat) : Prop where
  under : P.underlying t = some (.slice e)
  info : ∃ i, P.info? e = some i ∧ i.zero = some z ∧ i.size = size ∧ i.bytes = bytes
  zs : z.cells.size = size
  pos : 0 < size
theorem Elem.mk' {P : Program} {t e : TypeId} {z : Value} {size bytes : Nat} (h1 : P.underlying t = some (.slice e))
    (h2 : (P.info? e).map (fun i => (i.zero, i.size, i.bytes)) = some (some z, size, bytes)) (h3 : z.cells.size = size) (h4 : 0 < size) : Elem P t e z size bytes :=
  ⟨h1, info_parts h2, h3, h4⟩
theorem one_byteV (l : List UInt8) : ∀ u ∈ l.map byteV, u.oneCell' = true := by
  intro u hu
  obtain ⟨b, _, rfl⟩ := List.mem_map.1 hu
  rfl
/-- what an append to a slice of the call's own leaves -/
structure Appended (w w' : World) (base E size : Nat) (v v' : Value) (n m : Nat) (xs news : List Value) : Prop where
  own : w'.ownsRow base E size v' (n + m) (xs ++ news)
  grown : w.grownBy w' v.ownBlock
  at_ : v'.ownBlock = v.ownBlock ∨ v'.ownBlock = some w.heap.size
  base_le : base ≤ w.heap.size
theorem Appended.ext {w0 w w' : World} {base E size : Nat} {v v' : Value} {n m : Nat} {xs news : List Value} (h : Appended w w' base E size v v' n m xs news) (he : Ext w0 w) (hb : base = w0.heap.size)
    (ho : w.ownsRow base E size v n xs) : Ext w0 w' :=
  he.grown h.grown fun k hk => by have := (ho.lt k hk).1; omega
section
variable {P : Program} {t e : TypeId} {z : Value} {size bytes : Nat}
theorem run_app (el : Elem P t e z size bytes) (w : World) (ty : TypeId) (base : Nat) (v : Value) (n : Nat) (xs : List Value) (hown : w.ownsRow base e size v n xs)
    (A : Option Addr) (m c : Nat) (news : List Value) (hr : RdA w size A m c news) (h1 : ∀ u ∈ news, u.oneCell' = true)
    (hbytes : (n + m) * bytes ≤ 140737488355328) (hm : n + m ≤ maxLen) (hbase : base ≤ w.heap.size) :
    ∃ v' w', (Builtin.append_ #[t, t] ty #[v, .slice A m c]).run P w = .ok v' w' ∧ Appended w w' base e size v v' n m xs news := by
  obtain ⟨i, hi, hz, hs, hb⟩ := el.info
  rcases A with _ | ad
  · have hm : m = 0 := by have := hr.nil rfl; have := hr.nc; omega
    subst hm
    have hn : news = [] := List.eq_nil_of_length_eq_zero (by simpa using hr.len)
    subst hn
    refine ⟨v, w, ?_, by simpa using hown, World.grownBy.refl w _, .inl rfl, hbase⟩
    rcases hown.2 with ⟨rfl, rfl⟩ | ⟨g, cap, cur, rfl, _, _, hnc, _⟩
    · simp [Builtin.append_, run_underlying el.under, sizeOf, typeInfo, hi, Builtin.lenOf, Builtin.firstCells]
    · simp [Builtin.append_, run_underlying el.under, sizeOf, typeInfo, hi, Builtin.lenOf, Builtin.firstCells, hnc, storeCells]
  · have hcells : ∀ j u, news[j]? = some u → w.cell? (ad.add j) = some u := fun j u hu => by
      obtain ⟨hs', this⟩ := hr.at_ _ rfl j u hu
      obtain ⟨b, o, s⟩ := ad
      simp only at hs'; subst hs'
      unfold Addr.add
      split
      · rename_i h0; subst h0; simpa using this
      · exact this
    obtain ⟨v', w', hrun, h2, h3, _, h5⟩ := run_append_own_at (P := P) w base t ty e i z size bytes el.under hi hz hs hb el.zs el.pos v n xs hown _ m c news hr.len hcells h1 hm hbytes hbase
    exact ⟨v', w', hrun, h2, h3, h5, hbase⟩
theorem wp_app {o : Oper} {a : Act} {K : Act → World → Prop} {Q : Exit → Act → World → Prop} (el : Elem P t e z size bytes) (w : World) (s x : Operand)
    (ho : o.op = .call { callee := .builtin .append, args := #[s, x], argTypes := #[t, t] })
    (base : Nat) (v : Value) (n : Nat) (xs : List Value) (hs : a.eval s = v) (hown : w.ownsRow base e size v n xs)
    (vx : Value) (m : Nat) (news : List Value) (hx : a.eval x = vx) (hr : Rd w size vx m news) (h1 : ∀ u ∈ news, u.oneCell' = true)
    (hbytes : (n + m) * bytes ≤ 140737488355328) (hm : n + m ≤ maxLen) (hbase : base ≤ w.heap.size)
    (h : ∀ v' w', Appended w w' base e size v v' n m xs news → K (a.put o.dst v') w') : o.wp P a w K Q := by
  obtain ⟨A, c, rfl, hr⟩ := hr
  obtain ⟨v', w', hrun, h2⟩ := run_app el w o.type base v n xs hown A m c news hr h1 hbytes hm hbase
  exact Go.Lib.wp_append_run w s x t t ho _ _ hs hx v' w' hrun (h v' w' h2)
theorem wpList_app {ops : Array Oper} {rest : List Oper} {o : Oper} {a : Act} {Q : Exit → Act → World → Prop} (hgd : o.guard = none) (el : Elem P t e z size bytes) (w : World) (s x : Operand)
    (ho : o.op = .call { callee := .builtin .append, args := #[s, x], argTypes := #[t, t] })
    (base : Nat) (v : Value) (n : Nat) (xs : List Value) (hs : a.eval s = v) (hown : w.ownsRow base e size v n xs)
    (vx : Value) (m : Nat) (news : List Value) (hx : a.eval x = vx) (hr : Rd w size vx m news) (h1 : ∀ u ∈ news, u.oneCell' = true)
    (hbytes : (n + m) * bytes ≤ 140737488355328) (hm : n + m ≤ maxLen) (hbase : base ≤ w.heap.size)
    (h : ∀ v' w', Appended w w' base e size v v' n m xs news → wpList P ops Q rest (a.put o.dst v') w') : wpList P ops Q (o :: rest) a w :=
  wpList_plain hgd fun _ hK => wp_app el w s x ho base v n xs hs hown vx m news hx hr h1 hbytes hm hbase fun v' w' h2 => hK _ _ (h v' w' h2)
/-- a literal: cells that were just laid -/
theorem Rd.lit (w : World) (cs : Array Value) (E n : Nat) (hs : cs.size = n * size) (hm : n ≤ maxLen) :
    Rd (w.alloc (.cells cs E)) size (.slice (some ⟨w.heap.size, 0, none⟩) n n) n cs.toList :=
  Rd.of_own (World.ownsRow_lit (base := 0) (e := E) w cs n (Nat.zero_le _) hm hs)
end
theorem OB.app {E base : Nat} {w : World} {v : Value} {l l' : List UInt8} (h : w.ownsRow base E 1 v (l.length + l'.length) (l.map byteV ++ l'.map byteV)) : OB E base w v (l ++ l') := by
  unfold OB
  rw [List.length_append, List.map_append]
  exact h
theorem RB.lit (w : World) (cs : Array Value) (E : Nat) (l : List UInt8) (n : Nat) (hn : l.length = n) (hm : n ≤ 1000000) (h : cs.toList = l.map byteV) : RB (w.alloc (.cells cs E)) (.slice (some ⟨w.heap.size, 0, none⟩) n n) l := by
  subst hn
  unfold RB
  rw [← h]
  exact Rd.lit w cs E l.length (by rw [← Array.length_toList, h]; simp) (by unfold maxLen; omega)
theorem Rd.lo {P : Program} {t e : TypeId} {z : Value} {size bytes n c : Nat} {A : Option Addr} {xs : List Value} (el : Elem P t e z size bytes) {w : World} (h : Rd w size (.slice A n c) n xs) {k : Nat} (hk : k ≤ n) (x : Int) (hx : x = k) :
    ∃ A', (∀ w', (Instr.slice t (.slice A n c) (some (.int .i64 x)) none none).run P w' = .ok (.slice A' (n - k) (c - k)) w') ∧ Rd w size (.slice A' (n - k) (c - k)) (n - k) (xs.drop (k * size)) := by
  subst hx
  obtain ⟨A0, c0, he, h⟩ := h
  injection he with h1 h2 h3
  subst h1; subst h3
  obtain ⟨i, hi, hz, hs, hb⟩ := el.info
  refine ⟨_, fun w' => ?_, ⟨_, _, rfl, h.drop hk⟩⟩
  have g2 : ((k : Int) ≤ (n : Int)) := by omega
  simp [Instr.slice, run_underlying el.under, Instr.sliceBounds, run_sliceBound w' .i64 (k : Int) n .sliceB (by omega) g2, sizeOf, typeInfo, hi, hs]
section
variable {P : Program} {Q : Exit → Act → World → Prop} {R : World → World → Prop} {a0 : Act} {w0 : World} {rest : List Planned} {fs : List (Tmp × Pred)} {d : Tmp} {o : Oper} {g : GuardS}
theorem mono_eq {R : World → World → Prop} {X : Value} : ∀ v w w', (fun (v : Value) (_ : World) => v = X) v w → R w w' → (fun (v : Value) (_ : World) => v = X) v w' := fun _ _ _ h _ => h
/-- the guard is known to let the operation run -/
def Runs (fs : List (Tmp × Pred)) : GuardS → Prop
  | none => True
  | some (e, b) => fs.find? (fun f => f.1 == e) = some (e, fun v _ => v = .bool b)
/-- the guard is known not to let it run -/
def Skips (fs : List (Tmp × Pred)) : GuardS → Prop
  | none => False
  | some (e, b) => fs.find? (fun f => f.1 == e) = some (e, fun v _ => v = .bool (!b))
theorem runs_none {fs : List (Tmp × Pred)} : Runs fs none := trivial
theorem runs_some {fs : List (Tmp × Pred)} {e : Tmp} {b : Bool} (h : fs.find? (fun f => f.1 == e) = some (e, fun v _ => v = .bool b)) : Runs fs (some (e, b)) := h
theorem skips_some {fs : List (Tmp × Pred)} {e : Tmp} {b : Bool} (h : fs.find? (fun f => f.1 == e) = some (e, fun v _ => v = .bool (!b))) : Skips fs (some (e, b)) := h
theorem looksF_append {fs : List (Tmp × Pred)} {a0 a : Act} {w : World} {G : Prop} : ∀ (xs ys : List Tmp), LooksF fs a0 a w xs (LooksF fs a0 a w ys G) → LooksF fs a0 a w (xs ++ ys) G
  | [], _, h => h
  | _ :: xs, ys, h => fun hs => looksF_append xs ys (h hs)
theorem looksF_mono {fs : List (Tmp × Pred)} {a0 a : Act} {w : World} {G G' : Prop} (k : G → G') : ∀ (xs : List Tmp), LooksF fs a0 a w xs G → LooksF fs a0 a w xs G'
  | [], h => k h
  | _ :: xs, h => fun hs => looksF_mono k xs (h hs)
theorem wpM_run (I : Pred) (hg : Runs fs g) (hm : ∀ v w w', I v w → R w w' → I v w')
    (h : ∀ (a : Act) (w : World), R w0 w → LooksF fs a0 a w (opTmps o) (o.wp P a w (fun a' w' => ∃ v, a' = a.put (some d) v ∧ R w w' ∧ I v w') Q))
    (hr : wpM P Q R a0 w0 rest ((d, I) :: fs)) : wpM P Q R a0 w0 (⟨d, o, g⟩ :: rest) fs := by
  refine ⟨I, ⟨hm, fun a w hR => looksF_append _ _ (looksF_mono (fun k => ?_) _ (h a w hR))⟩, hr⟩
  cases g with
  | none => exact (if_pos (c := wantedS none a = true) rfl).mpr k
  | some eb =>
    obtain ⟨e, b⟩ := eb
    show SlotF fs a0 a w e → _
    intro hs
    unfold SlotF at hs
    rw [show fs.find? (fun f => f.1 == e) = _ from hg] at hs
    have hs : a.tmps.getD e undef = .bool b := hs
    refine (if_pos (c := wantedS (some (e, b)) a = true) ?_).mpr k
    simp only [wantedS, hs, beq_self_eq_true]
theorem wpM_skip (hg : Skips fs g) (hr : wpM P Q R a0 w0 rest ((d, fun v _ => v = undef) :: fs)) : wpM P Q R a0 w0 (⟨d, o, g⟩ :: rest) fs := by
  refine ⟨_, ⟨fun v w w' h _ => h, fun a w hR => looksF_append _ _ ?_⟩, hr⟩
  cases g with
  | none => exact hg.elim
  | some eb =>
    obtain ⟨e, b⟩ := eb
    have : LooksF fs a0 a w [e] (if wantedS (some (e, b)) a = true then o.wp P a w (fun a' w' => ∃ v, a' = a.put (some d) v ∧ R w w' ∧ v = undef) Q else undef = undef) := by
      show SlotF fs a0 a w e → _
      intro hs
      unfold SlotF at hs
      rw [show fs.find? (fun f => f.1 == e) = _ from hg] at hs
      have hs : a.tmps.getD e undef = .bool (!b) := hs
      have hw : wantedS (some (e, b)) a = false := by simp [wantedS, hs]
      refine (if_neg (c := wantedS (some (e, b)) a = true) (by rw [hw]; simp)).mpr rfl
    generalize opTmps o = ts
    induction ts with
    | nil => exact this
    | cons t ts ih => exact fun _ => ih
/-- the value is the same in every world -/
theorem wpM_val (hg : Runs fs g) (hrf : ∀ w, R w w) (hd : o.dst = some d)
    (hX : ∃ X : Value, (∀ (a : Act) (w : World), R w0 w → LooksF fs a0 a w (opTmps o) ((execOp a.eval o).run P w = .ok (.value X) w)) ∧
      wpM P Q R a0 w0 rest ((d, fun v _ => v = X) :: fs)) : wpM P Q R a0 w0 (⟨d, o, g⟩ :: rest) fs := by
  obtain ⟨X, h, hr⟩ := hX
  refine wpM_run _ hg (fun v w w' h _ => h) (fun a w hR => looksF_mono (fun k => ?_) _ (h a w hR)) hr
  simp only [Oper.wp, k, Oper.upon, hd]
  exact ⟨X, rfl, hrf w, rfl⟩
/-- a call, or whatever goes on from the world -/
theorem wpM_call (I : Pred) (hg : Runs fs g) (hd : o.dst = some d) (hm : ∀ v w w', I v w → R w w' → I v w')
    (h : ∀ (a : Act) (w : World), R w0 w → LooksF fs a0 a w (opTmps o) (∀ K : Act → World → Prop, (∀ v w', R w w' → I v w' → K (a.put o.dst v) w') → o.wp P a w K Q))
    (hr : wpM P Q R a0 w0 rest ((d, I) :: fs)) : wpM P Q R a0 w0 (⟨d, o, g⟩ :: rest) fs := by
  refine wpM_run I hg hm (fun a w hR => looksF_mono (fun k => ?_) _ (h a w hR)) hr
  exact k _ fun v w' hR hI => ⟨v, by rw [hd], hR, hI⟩
/-- what is in a slot, copied -/
theorem wpM_move {t : Tmp} {I : Pred} (hg : Runs fs g) (hrf : ∀ w, R w w) (ho : o.op = .move (.tmp t)) (hd : o.dst = some d) (hf : (fs.find? (fun f => f.1 == t)) = some (t, I)) (hm : ∀ v w w', I v w → R w w' → I v w')
    (hr : wpM P Q R a0 w0 rest ((d, I) :: fs)) : wpM P Q R a0 w0 (⟨d, o, g⟩ :: rest) fs := by
  refine wpM_run I hg hm (fun a w _ => ?_) hr
  simp only [opTmps, ho, Op.operands]
  show SlotF fs a0 a w t → _
  intro hs
  unfold SlotF at hs
  rw [hf] at hs
  show Oper.wp P o a w _ Q
  simp only [Oper.wp, execOp, ho]
  exact ⟨a.tmps.getD t undef, by rw [hd]; rfl, hrf w, hs⟩
/-- what the frame held ahead of the region, copied -/
theorem wpM_move0 {t : Tmp} (hg : Runs fs g) (hrf : ∀ w, R w w) (ho : o.op = .move (.tmp t)) (hd : o.dst = some d) (hf : (fs.find? (fun f => f.1 == t)) = none)
    (hX : ∃ X : Value, a0.tmps.getD t undef = X ∧ wpM P Q R a0 w0 rest ((d, fun v _ => v = X) :: fs)) : wpM P Q R a0 w0 (⟨d, o, g⟩ :: rest) fs := by
  obtain ⟨X, hX, hr⟩ := hX
  refine wpM_run _ hg (fun _ _ _ h _ => h) (fun a w _ => ?_) hr
  simp only [opTmps, ho, Op.operands]
  show SlotF fs a0 a w t → _
  intro hs
  unfold SlotF at hs
  rw [hf] at hs
  have hs : a.tmps.getD t undef = a0.tmps.getD t undef := hs
  show Oper.wp P o a w _ Q
  simp only [Oper.wp, execOp, ho]
  exact ⟨a.tmps.getD t undef, by rw [hd]; rfl, hrf w, hs.trans hX⟩
end
/-- 'wpM', shut -/
def wpX (P : Program) (Q : Exit → Act → World → Prop) (R : World → World → Prop) (a0 : Act) (w0 : World) (l : List Planned) (fs : List (Tmp × Pred)) : Prop := wpM P Q R a0 w0 l fs
section
variable {P : Program} {Q : Exit → Act → World → Prop} {R : World → World → Prop} {a0 : Act} {w0 : World} {rest : List Planned} {fs : List (Tmp × Pred)} {d : Tmp} {o : Oper} {e : Tmp} {b : Bool}
theorem wpM_done (h : ∀ w, R w0 w → FinV (fun a => Q .normal a w) w fs.reverse a0) : wpX P Q R a0 w0 [] fs := h
theorem wpM_val0 (hrf : ∀ w, R w w) (hd : o.dst = some d)
    (hX : ∃ X : Value, (∀ (a : Act) (w : World), R w0 w → LooksF fs a0 a w (opTmps o) ((execOp a.eval o).run P w = .ok (.value X) w)) ∧
      wpX P Q R a0 w0 rest ((d, fun v _ => v = X) :: fs)) : wpX P Q R a0 w0 (⟨d, o, none⟩ :: rest) fs := wpM_val runs_none hrf hd hX
theorem wpM_val1 (hrf : ∀ w, R w w) (hd : o.dst = some d) (hg : fs.find? (fun f => f.1 == e) = some (e, fun v _ => v = .bool b))
    (hX : ∃ X : Value, (∀ (a : Act) (w : World), R w0 w → LooksF fs a0 a w (opTmps o) ((execOp a.eval o).run P w = .ok (.value X) w)) ∧
      wpX P Q R a0 w0 rest ((d, fun v _ => v = X) :: fs)) : wpX P Q R a0 w0 (⟨d, o, some (e, b)⟩ :: rest) fs := wpM_val (runs_some hg) hrf hd hX
theorem wpM_move00 {t : Tmp} (hrf : ∀ w, R w w) (ho : o.op = .move (.tmp t)) (hd : o.dst = some d) (hf : (fs.find? (fun f => f.1 == t)) = none)
    (hX : ∃ X : Value, a0.tmps.getD t undef = X ∧ wpX P Q R a0 w0 rest ((d, fun v _ => v = X) :: fs)) : wpX P Q R a0 w0 (⟨d, o, none⟩ :: rest) fs := wpM_move0 runs_none hrf ho hd hf hX
theorem wpM_move01 {t : Tmp} (hrf : ∀ w, R w w) (ho : o.op = .move (.tmp t)) (hd : o.dst = some d) (hf : (fs.find? (fun f => f.1 == t)) = none) (hg : fs.find? (fun f => f.1 == e) = some (e, fun v _ => v = .bool b))
    (hX : ∃ X : Value, a0.tmps.getD t undef = X ∧ wpX P Q R a0 w0 rest ((d, fun v _ => v = X) :: fs)) : wpX P Q R a0 w0 (⟨d, o, some (e, b)⟩ :: rest) fs := wpM_move0 (runs_some hg) hrf ho hd hf hX
theorem wpM_movek0 {t : Tmp} {X : Value} (hrf : ∀ w, R w w) (ho : o.op = .move (.tmp t)) (hd : o.dst = some d) (hf : (fs.find? (fun f => f.1 == t)) = some (t, fun v _ => v = X))
    (hr : wpX P Q R a0 w0 rest ((d, fun v _ => v = X) :: fs)) : wpX P Q R a0 w0 (⟨d, o, none⟩ :: rest) fs := wpM_move runs_none hrf ho hd hf (fun _ _ _ h _ => h) hr
theorem wpM_movek1 {t : Tmp} {X : Value} (hrf : ∀ w, R w w) (ho : o.op = .move (.tmp t)) (hd : o.dst = some d) (hf : (fs.find? (fun f => f.1 == t)) = some (t, fun v _ => v = X)) (hg : fs.find? (fun f => f.1 == e) = some (e, fun v _ => v = .bool b))
    (hr : wpX P Q R a0 w0 rest ((d, fun v _ => v = X) :: fs)) : wpX P Q R a0 w0 (⟨d, o, some (e, b)⟩ :: rest) fs := wpM_move (runs_some hg) hrf ho hd hf (fun _ _ _ h _ => h) hr
theorem wpM_skip1 (hg : fs.find? (fun f => f.1 == e) = some (e, fun v _ => v = .bool (!b))) (hr : wpX P Q R a0 w0 rest ((d, fun v _ => v = undef) :: fs)) : wpX P Q R a0 w0 (⟨d, o, some (e, b)⟩ :: rest) fs := wpM_skip (skips_some hg) hr
theorem wpM_call1 (I : Pred) (hd : o.dst = some d) (hg : fs.find? (fun f => f.1 == e) = some (e, fun v _ => v = .bool b)) (hm : ∀ v w w', I v w → R w w' → I v w')
    (h : ∀ (a : Act) (w : World), R w0 w → LooksF fs a0 a w (opTmps o) (∀ K : Act → World → Prop, (∀ v w', R w w' → I v w' → K (a.put o.dst v) w') → o.wp P a w K Q))
    (hr : wpX P Q R a0 w0 rest ((d, I) :: fs)) : wpX P Q R a0 w0 (⟨d, o, some (e, b)⟩ :: rest) fs := wpM_call I (runs_some hg) hd hm h hr
/-- the region, with 'what was there is as it was' for the way of the world -/
theorem wp_region_ext {ops : Array Oper} {id : Nat} {a : Act} {w : World} {ps : List Planned} (hm : P.follows .mixedOrders = true)
    (hplan : planOf ops ops.toList = some ps) {n : Nat} (hn : a.tmps.size = n) (hok : planOk n ps = true)
    (h : wpX P Q Ext a w ps []) : (Code.region id ops true).wp P Q a w :=
  wp_region_mono Ext hm hplan hn hok (fun _ _ _ h k => h.trans k) Ext.refl (Ext.refl _).drew h
end
attribute [irreducible] Runs Skips wpX
end Go.Ox
namespace Go.Ox
open Go.RowKit
section
variable {P : Program} {t e : TypeId} {z : Value} {size bytes : Nat}
end
theorem ownsRow_grown {w w' : World} {b E s n : Nat} {v : Value} {xs : List Value} {row : Option Nat} (h : w.ownsRow b E s v n xs) (hg : w.grownBy w' row) (hv : ∀ k, v.ownBlock = some k → row ≠ some k) : w'.ownsRow b E s v n xs :=
  h.kept hg (by
    cases hq : v.ownBlock with
    | none => simp
    | some k =>
      have := hv k hq
      simp
      intro e; exact this e.symm)
section
variable {P : Program} {Q : Exit → Act → World → Prop} {R : World → World → Prop} {a0 : Act} {w0 : World} {rest : List Planned} {fs : List (Tmp × Pred)} {d : Tmp} {o : Oper} {e : Tmp} {b : Bool}
/-- a guard whose slot was itself passed by -/
theorem wpM_skipU (hg : fs.find? (fun f => f.1 == e) = some (e, fun v _ => v = undef)) (hr : wpX P Q R a0 w0 rest ((d, fun v _ => v = undef) :: fs)) : wpX P Q R a0 w0 (⟨d, o, some (e, b)⟩ :: rest) fs := by
  unfold wpX at *
  refine ⟨_, ⟨fun v w w' h _ => h, fun a w hR => looksF_append _ _ ?_⟩, hr⟩
  have : LooksF fs a0 a w [e] (if wantedS (some (e, b)) a = true then o.wp P a w (fun a' w' => ∃ v, a' = a.put (some d) v ∧ R w w' ∧ v = undef) Q else undef = undef) := by
    show SlotF fs a0 a w e → _
    intro hs
    unfold SlotF at hs
    rw [show fs.find? (fun f => f.1 == e) = _ from hg] at hs
    have hs : a.tmps.getD e undef = undef := hs
    have hw : wantedS (some (e, b)) a = false := by
      unfold wantedS
      simp only [hs]
      rfl
    refine (if_neg (c := wantedS (some (e, b)) a = true) (by rw [hw]; simp)).mpr rfl
  generalize opTmps o = ts
  induction ts with
  | nil => exact this
  | cons t ts ih => exact fun _ => ih
end
end Go.Ox
set_option linter.unusedVariables false
set_option linter.unusedSimpArgs false
namespace Go.Ox
open Go.RowKit
theorem ma {G G' : Prop} (k : G') (h : G' → G := by
    intro k
    repeat (first
      | ((first | (refine wpM_move00 (by first | exact Ext.refl | exact (ExtC.refl _)) rfl rfl rfl ?_) | (refine wpM_move01 (by first | exact Ext.refl | exact (ExtC.refl _)) rfl rfl rfl rfl ?_)); apply Exists.intro; refine ⟨?_, ?_⟩; · (go_simp; rfl))
      | (first | (refine wpM_movek0 (by first | exact Ext.refl | exact (ExtC.refl _)) rfl rfl rfl ?_) | (refine wpM_movek1 (by first | exact Ext.refl | exact (ExtC.refl _)) rfl rfl rfl rfl ?_))
      | ((first | (refine wpM_val0 (by first | exact Ext.refl | exact (ExtC.refl _)) rfl ?_) | (refine wpM_val1 (by first | exact Ext.refl | exact (ExtC.refl _)) rfl rfl ?_)); apply Exists.intro; refine ⟨?_, ?_⟩; · (intro a w' hR; (try (intro h1; try have e1 : _ = _ := h1)); (try (intro h2; try have e2 : _ = _ := h2)); (try (intro h3; try have e3 : _ = _ := h3)); (try (intro h4; try have e4 : _ = _ := h4)); go_simp; rfl))
      | (refine wpM_skip1 rfl ?_)
      | (refine wpM_skipU rfl ?_))
    exact k) : G := h k
def Tag (X : Value) (p : Prop) : Prop := p
section
variable {P : Program} {Q : Exit → Act → World → Prop} {R : World → World → Prop} {a0 : Act} {w0 : World} {rest : List Planned} {fs : List (Tmp × Pred)} {d e : Tmp} {o : Oper} {b : Bool}
theorem wpM_callT1 {X : Value} {p : Prop} (con : Tag X p) (hd : o.dst = some d) (hg : fs.find? (fun f => f.1 == e) = some (e, fun v _ => v = .bool b))
    (h : ∀ (a : Act) (w : World), R w0 w → LooksF fs a0 a w (opTmps o) (∀ K : Act → World → Prop, (∀ v w', R w w' → v = X → K (a.put o.dst v) w') → o.wp P a w K Q))
    (hr : wpX P Q R a0 w0 rest ((d, fun v _ => v = X) :: fs)) : wpX P Q R a0 w0 (⟨d, o, some (e, b)⟩ :: rest) fs := wpM_call1 (fun v _ => v = X) hd hg mono_eq h hr
end
theorem ml2 {F0 F1 G G' : Prop} (f0 : F0) (f1 : F1) (k : G') (h : F0 → F1 → G' → G := by
    intro f0 f1 k
    first | (refine wpM_val0 (by first | exact Ext.refl | exact (ExtC.refl _)) rfl ?_) | (refine wpM_val1 (by first | exact Ext.refl | exact (ExtC.refl _)) rfl rfl ?_)
    apply Exists.intro
    refine ⟨?_, ?_⟩
    · intro a w' hR
      (try (intro h1; try have e1 : _ = _ := h1)); (try (intro h2; try have e2 : _ = _ := h2)); (try (intro h3; try have e3 : _ = _ := h3)); (try (intro h4; try have e4 : _ = _ := h4))
      have hl0 := hR.cell f0
      have hl1 := hR.cell f1
      go_simp
      rfl
    exact k) : G := h f0 f1 k
theorem mc2 {G G' : Prop} {w0 : World} {C : World → Prop} (X : Value) (con : ∀ w' : World, Ext w0 w' → C w') (k : G') (h : Tag X (∀ w' : World, Ext w0 w' → C w') → G' → G := by
    intro con k
    first | refine wpM_callT0 con rfl ?_ ?_ | refine wpM_callT1 con rfl rfl ?_ ?_
    · intro a w' hR h1 h2 K hK
      have e1 : _ = _ := h1
      have e2 : _ = _ := h2
      go_simp
      refine (con w' hR).mono ?_
      rintro e w2 ⟨rfl, he⟩
      exact hK _ _ he rfl
    exact k) : G := h con k
end Go.Ox
