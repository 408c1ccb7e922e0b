/-
  A region that draws its order, all of whose operations only read, compute or make new memory: one walk in the order of the text serves every order.
  Each operation leaves a value of which a predicate is known; the predicates are kept while the world goes on.
-/
import Derived.RegionTactic
import Derived.Below
import Derived.WalkKit
namespace Go.Ox
open Go.RowKit

abbrev Pred := Value → World → Prop

/-- The slot that a guard looks at, and what it wants. -/
abbrev GuardS := Option (Tmp × Bool)

def wantedS (g : GuardS) (a : Act) : Bool :=
  match g with
  | none => true
  | some (d, b) => match a.tmps.getD d undef with
    | .bool c => c == b
    | _ => false

def opTmps (o : Oper) : List Tmp := o.op.operands.toList.filterMap fun | .tmp t => some t | _ => none

/-- What is known of slot t: what the last writer ahead leaves, else what the frame held. -/
def SlotF (fs : List (Tmp × Pred)) (a0 a : Act) (w : World) (t : Tmp) : Prop :=
  match fs.find? (fun f => f.1 == t) with
  | some f => f.2 (a.tmps.getD t undef) w
  | none => a.tmps.getD t undef = a0.tmps.getD t undef

def LooksF (fs : List (Tmp × Pred)) (a0 a : Act) (w : World) : List Tmp → Prop → Prop
  | [], G => G
  | t :: ts, G => SlotF fs a0 a w t → LooksF fs a0 a w ts G

theorem LooksF.use {fs : List (Tmp × Pred)} {a0 a : Act} {w : World} {G : Prop} : ∀ {ts : List Tmp}, LooksF fs a0 a w ts G → (∀ t ∈ ts, SlotF fs a0 a w t) → G
  | [], h, _ => h
  | _ :: _, h, k => LooksF.use (h (k _ (List.mem_cons_self ..))) fun t ht => k t (List.mem_cons_of_mem _ ht)

def FinV (G : Act → Prop) (w : World) : List (Tmp × Pred) → Act → Prop
  | [], a => G a
  | (d, I) :: l, a => ∀ v, I v w → FinV G w l (a.put (some d) v)

/-- one operation of the plan -/
structure Planned where
  d : Tmp
  o : Oper
  g : GuardS

def Planned.looks (p : Planned) : List Tmp := opTmps p.o ++ (match p.g with | some (d, _) => [d] | none => [])

/-- what one operation owes -/
def Owes (P : Program) (Q : Exit → Act → World → Prop) (R : World → World → Prop) (a0 : Act) (w0 : World) (fs : List (Tmp × Pred)) (p : Planned) (I : Pred) : Prop :=
  (∀ v w w', I v w → R w w' → I v w') ∧
  ∀ (a : Act) (w : World), R w0 w → LooksF fs a0 a w p.looks
    (if wantedS p.g a = true then p.o.wp P a w (fun a' w' => ∃ v, a' = a.put (some p.d) v ∧ R w w' ∧ I v w') Q else I undef w)

def wpM (P : Program) (Q : Exit → Act → World → Prop) (R : World → World → Prop) (a0 : Act) (w0 : World) : List Planned → List (Tmp × Pred) → Prop
  | [], fs => ∀ w, R w0 w → FinV (fun a => Q .normal a w) w fs.reverse a0
  | p :: rest, fs => ∃ I : Pred, Owes P Q R a0 w0 fs p I ∧ wpM P Q R a0 w0 rest ((p.d, I) :: fs)

/-- The plan of a region: none where an operation writes no slot, or a guard names none. -/
def planOf (ops : Array Oper) : List Oper → Option (List Planned)
  | [] => some []
  | o :: l =>
    match o.dst, planOf ops l with
    | some d, some r =>
      match o.guard with
      | none => some (⟨d, o, none⟩ :: r)
      | some (j, b) => match (ops[j]?).bind (·.dst) with
        | some e => some (⟨d, o, some (e, b)⟩ :: r)
        | none => none
    | _, _ => none

def edgeTo (o : Oper) (k : Nat) : Bool := o.after.any fun e => Region.binds .any e && e.on == k

/-- what the proof asks of a plan's edges -/
def planOk (n : Nat) (ps : List Planned) : Bool :=
  ps.zipIdx.all fun (p, j) =>
    decide (p.d < n) &&
    p.o.after.all (fun e => !Region.binds .any e || decide (e.on < j)) &&
    ps.zipIdx.all fun (q, k) =>
      (k == j || (p.d != q.d && (!p.looks.contains q.d || (if k < j then edgeTo p.o k else edgeTo q.o j))))

section
variable {P : Program} {ops : Array Oper} {Q : Exit → Act → World → Prop} {R : World → World → Prop} {a0 : Act} {w0 : World}

theorem planOf_spec : ∀ (l : List Oper) (ps : List Planned), planOf ops l = some ps → ps.length = l.length ∧
    ∀ (j : Nat) (p : Planned), ps[j]? = some p → l[j]? = some p.o ∧ p.o.dst = some p.d ∧ (match p.o.guard with | none => p.g = none | some (k, b) => ∃ e, (ops[k]?).bind (·.dst) = some e ∧ p.g = some (e, b))
  | [], ps, h => by
    simp [planOf] at h; subst h; simp
  | o :: l, ps, h => by
    simp only [planOf] at h
    split at h
    · rename_i d r hd hr
      obtain ⟨hl, hk⟩ := planOf_spec l r hr
      split at h
      · rename_i hg
        injection h with h; subst h
        refine ⟨by simp [hl], fun j p hp => ?_⟩
        cases j with
        | zero => simp at hp; subst hp; simp [hd, hg]
        | succ j => simpa using hk j p (by simpa using hp)
      · rename_i k b hg
        split at h
        · rename_i e he
          injection h with h; subst h
          refine ⟨by simp [hl], fun j p hp => ?_⟩
          cases j with
          | zero => simp at hp; subst hp; simp [hd, hg, he]
          | succ j => simpa using hk j p (by simpa using hp)
        · cases h
    · cases h

theorem wanted_planned {p : Planned} (hg : match p.o.guard with | none => p.g = none | some (k, b) => ∃ e, (ops[k]?).bind (·.dst) = some e ∧ p.g = some (e, b)) (a : Act) :
    Region.wanted p.o (yielded ops a.tmps) = wantedS p.g a := by
  unfold Region.wanted wantedS
  cases h : p.o.guard with
  | none => rw [h] at hg; rw [hg]
  | some kb =>
    obtain ⟨k, b⟩ := kb
    rw [h] at hg
    obtain ⟨e, he, hg⟩ := hg
    rw [hg]
    simp only [yielded, he, Option.bind_some, Array.getD_eq_getD_getElem?]
    cases a.tmps[e]? with
    | none => rfl
    | some v => cases v <;> simp

/-- the facts known ahead of operation j -/
def factsAt (ps : List Planned) (Is : List Pred) (j : Nat) : List (Tmp × Pred) := (((ps.map (·.d)).zip Is).take j).reverse

theorem wpM_parts : ∀ (l : List Planned) (fs : List (Tmp × Pred)), wpM P Q R a0 w0 l fs → ∃ Is : List Pred, Is.length = l.length ∧
    (∀ (j : Nat) (p : Planned) (I : Pred), l[j]? = some p → Is[j]? = some I → Owes P Q R a0 w0 (factsAt l Is j ++ fs) p I) ∧
    ∀ w, R w0 w → FinV (fun a => Q .normal a w) w (fs.reverse ++ ((l.map (·.d)).zip Is)) a0
  | [], fs, h => ⟨[], rfl, by simp, by simpa [wpM] using h⟩
  | p :: l, fs, h => by
    obtain ⟨I, ho, hr⟩ := h
    obtain ⟨Is, hl, hk, hf⟩ := wpM_parts l _ hr
    refine ⟨I :: Is, by simp [hl], fun j q J hq hJ => ?_, fun w hw => by simpa using hf w hw⟩
    cases j with
    | zero => simp at hq hJ; subst hq hJ; simpa [factsAt] using ho
    | succ j =>
      have := hk j q J (by simpa using hq) (by simpa using hJ)
      simpa [factsAt, List.append_assoc] using this

theorem size_put (a : Act) (d : Tmp) (v : Value) : (a.put (some d) v).tmps.size = a.tmps.size := by simp [Act.put]
theorem getD_put_same (a : Act) (d : Tmp) (v : Value) (h : d < a.tmps.size) : (a.put (some d) v).tmps.getD d undef = v := by
  simp [Act.put, Array.getD, h]
theorem getD_put_ne (a : Act) (d t : Tmp) (v : Value) (h : d ≠ t) : (a.put (some d) v).tmps.getD t undef = a.tmps.getD t undef := by
  simp [Act.put, Array.getElem?_setIfInBounds_ne h]

theorem tmps_ext {x y : Array Value} (hs : x.size = y.size) (h : ∀ t, x.getD t undef = y.getD t undef) : x = y := by
  apply Array.ext hs
  intro i h1 h2
  have := h i
  simpa [Array.getD, h1, h2] using this

/-- the end: all slots are as their predicates say -/
theorem finV_use {G : Act → Prop} {w : World} : ∀ (l : List (Tmp × Pred)) (b a : Act), FinV G w l b → b.tmps.size = a.tmps.size → b.defers = a.defers →
    (∀ f ∈ l, f.1 < a.tmps.size ∧ f.2 (a.tmps.getD f.1 undef) w) → (∀ t, (∀ f ∈ l, f.1 ≠ t) → a.tmps.getD t undef = b.tmps.getD t undef) → G a
  | [], b, a, h, hs, hd, _, hn => by
    have : a = b := by
      cases a; cases b
      simp only [Act.mk.injEq]
      refine ⟨tmps_ext hs.symm fun t => hn t (by simp), hd.symm⟩
    rw [this]; exact h
  | (d, I) :: l, b, a, h, hs, hd, hk, hn => by
    obtain ⟨h1, h2⟩ := hk (d, I) (List.mem_cons_self ..)
    refine finV_use l _ a (h _ h2) (by rw [size_put]; exact hs) (by simpa [Act.put] using hd) (fun f hf => hk f (List.mem_cons_of_mem _ hf)) fun t ht => ?_
    by_cases he : d = t
    · subst he; rw [getD_put_same _ _ _ (by rw [hs]; exact h1)]
    · rw [getD_put_ne _ _ _ _ he]
      exact hn t fun f hf => by
        rcases List.mem_cons.1 hf with rfl | hf
        · exact he
        · exact ht f hf

structure Inv (R : World → World → Prop) (ps : List Planned) (Is : List Pred) (a0 : Act) (w0 : World) (listed : Array Bool) (a : Act) (w : World) : Prop where
  size : listed.size = ps.length
  world : R w0 w
  defers : a.defers = a0.defers
  tsize : a.tmps.size = a0.tmps.size
  closed : ∀ (j : Nat) (p : Planned), ps[j]? = some p → listed.getD j true = true → ∀ e ∈ p.o.after, Region.binds .any e = true → listed.getD e.on false = true
  fact : ∀ (j : Nat) (p : Planned) (I : Pred), ps[j]? = some p → Is[j]? = some I → listed.getD j true = true → I (a.tmps.getD p.d undef) w
  other : ∀ t, (∀ (j : Nat) (p : Planned), ps[j]? = some p → listed.getD j true = true → p.d ≠ t) → a.tmps.getD t undef = a0.tmps.getD t undef

theorem planOk_spec {n : Nat} {ps : List Planned} (h : planOk n ps = true) {j : Nat} {p : Planned} (hj : ps[j]? = some p) :
    p.d < n ∧ (∀ e ∈ p.o.after, Region.binds .any e = true → e.on < j) ∧
    ∀ (k : Nat) (q : Planned), ps[k]? = some q → k ≠ j → p.d ≠ q.d ∧ (q.d ∈ p.looks → if k < j then edgeTo p.o k = true else edgeTo q.o j = true) := by
  simp only [planOk, List.all_eq_true] at h
  have h1 := h (p, j) (by rw [List.mem_zipIdx_iff_getElem?]; exact hj)
  simp only [Bool.and_eq_true, decide_eq_true_eq, List.all_eq_true, Array.all_eq_true_iff_forall_mem, Bool.or_eq_true, Bool.not_eq_true'] at h1
  obtain ⟨⟨h1, h2⟩, h3⟩ := h1
  refine ⟨h1, fun e he hb => ?_, fun k q hq hne => ?_⟩
  · rcases h2 e he with h | h
    · rw [hb] at h; cases h
    · exact h
  · have := h3 (q, k) (by rw [List.mem_zipIdx_iff_getElem?]; exact hq)
    simp only [beq_iff_eq, bne_iff_ne, ne_eq] at this
    rcases this with h | ⟨h4, h5⟩
    · exact absurd h hne
    · refine ⟨h4, fun hm => ?_⟩
      rcases h5 with h | h
      · exact absurd (List.contains_iff_mem.2 hm) (by rw [h]; simp)
      · split <;> rename_i hlt <;> simpa [hlt] using h

theorem edgeTo_spec {o : Oper} {k : Nat} (h : edgeTo o k = true) : ∃ e ∈ o.after, Region.binds .any e = true ∧ e.on = k := by
  simp only [edgeTo, Array.any_eq_true'] at h
  obtain ⟨e, he, h⟩ := h
  simp only [Bool.and_eq_true, beq_iff_eq] at h
  exact ⟨e, he, h⟩

theorem getD_true_iff {listed : Array Bool} {j : Nat} (h : j < listed.size) : listed.getD j true = listed.getD j false := by simp [Array.getD, h]

theorem find_factsAt {ps : List Planned} {Is : List Pred} (hl : Is.length = ps.length) (j : Nat) (t : Tmp) :
    (∃ (k : Nat) (q : Planned) (I : Pred), k < j ∧ ps[k]? = some q ∧ Is[k]? = some I ∧ q.d = t ∧ (factsAt ps Is j).find? (fun f => f.1 == t) = some (t, I)) ∨
    ((∀ (k : Nat) (q : Planned), k < j → ps[k]? = some q → q.d ≠ t) ∧ (factsAt ps Is j).find? (fun f => f.1 == t) = none) := by
  cases hf : (factsAt ps Is j).find? (fun f => f.1 == t) with
  | none =>
    right
    refine ⟨fun k q hk hq he => ?_, rfl⟩
    have hkl : k < ps.length := by
      rcases Nat.lt_or_ge k ps.length with h | h
      · exact h
      · rw [List.getElem?_eq_none h] at hq; cases hq
    rw [List.find?_eq_none] at hf
    have hI : Is[k]? = some (Is[k]'(by omega)) := List.getElem?_eq_getElem (by omega)
    refine hf (q.d, Is[k]'(by omega)) ?_ (by simp [he])
    simp only [factsAt, List.mem_reverse]
    rw [List.mem_iff_getElem?]
    refine ⟨k, ?_⟩
    rw [List.getElem?_take_of_lt hk, List.getElem?_zip_eq_some]
    exact ⟨by simp [hq], hI⟩
  | some f =>
    left
    have h1 := List.mem_of_find?_eq_some hf
    have h2 := List.find?_some hf
    simp only [factsAt, List.mem_reverse] at h1
    rw [List.mem_iff_getElem?] at h1
    obtain ⟨k, hk⟩ := h1
    have hkj : k < j := by
      rcases Nat.lt_or_ge k j with h | h
      · exact h
      · rw [List.getElem?_take_eq_none h] at hk; cases hk
    rw [List.getElem?_take_of_lt hkj, List.getElem?_zip_eq_some] at hk
    obtain ⟨hk1, hk2⟩ := hk
    simp only [List.getElem?_map, Option.map_eq_some_iff] at hk1
    obtain ⟨q, hq, hqd⟩ := hk1
    refine ⟨k, q, f.2, hkj, hq, hk2, ?_, ?_⟩
    · rw [hqd]; simpa using h2
    · have : f.1 = t := by simpa using h2
      rw [← this]

theorem all_listed {ps : List Planned} {listed : Array Bool} (hp : ∀ (j : Nat) (p : Planned), ps[j]? = some p → ops[j]? = some p.o)
    (hb : ∀ (j : Nat) (p : Planned), ps[j]? = some p → ∀ e ∈ p.o.after, Region.binds .any e = true → e.on < j) (hs : listed.size = ps.length)
    (hr : Region.ready .any ops listed = []) : ∀ j, j < ps.length → listed.getD j false = true := by
  intro j
  induction j using Nat.strongRecOn with
  | ind j ih =>
    intro hj
    have hpj : ps[j]? = some ps[j] := List.getElem?_eq_getElem hj
    cases hl : listed.getD j true with
    | true => rwa [getD_true_iff (by omega)] at hl
    | false =>
      exfalso
      have : j ∈ Region.ready .any ops listed := mem_ready.2 ⟨hl, _, hp j _ hpj, fun e he hbe => ih e.on (hb j _ hpj e he hbe) (by have := hb j _ hpj e he hbe; omega)⟩
      rw [hr] at this
      cases this

theorem slotF_of_inv {ps : List Planned} {Is : List Pred} {n : Nat} (hl : Is.length = ps.length) (hok : planOk n ps = true) {listed : Array Bool} {a : Act} {w : World}
    (h : Inv R ps Is a0 w0 listed a w) {j : Nat} {p : Planned} (hj : ps[j]? = some p) (hun : listed.getD j true = false)
    (hall : ∀ e ∈ p.o.after, Region.binds .any e = true → listed.getD e.on false = true) (t : Tmp) (ht : t ∈ p.looks) : SlotF (factsAt ps Is j) a0 a w t := by
  have hjl : j < ps.length := by
    rcases Nat.lt_or_ge j ps.length with h | h
    · exact h
    · rw [List.getElem?_eq_none h] at hj; cases hj
  unfold SlotF
  rcases find_factsAt (Is := Is) hl j t with ⟨k, q, I, hk, hq, hI, hqt, hf⟩ | ⟨hno, hf⟩
  · rw [hf]
    show I (a.tmps.getD t undef) w
    rw [← hqt]
    refine h.fact k q I hq hI ?_
    have := ((planOk_spec hok hj).2.2 k q hq (by omega)).2 (by rw [hqt]; exact ht)
    rw [if_pos hk] at this
    obtain ⟨e, he, hb, hon⟩ := edgeTo_spec this
    have := hall e he hb
    rw [hon] at this
    rw [getD_true_iff (by have := h.size; omega)]
    exact this
  · rw [hf]
    refine h.other t fun k q hq hlk he => ?_
    rcases Nat.lt_trichotomy k j with hlt | heq | hgt
    · exact hno k q hlt hq he
    · subst heq; rw [hlk] at hun; cases hun
    · have := ((planOk_spec hok hj).2.2 k q hq (by omega)).2 (by rw [he]; exact ht)
      rw [if_neg (by omega)] at this
      obtain ⟨e, hme, hb, hon⟩ := edgeTo_spec this
      have := h.closed k q hq hlk e hme hb
      rw [hon] at this
      rw [getD_true_iff (by have := h.size; omega), this] at hun
      cases hun

theorem inv_step {ps : List Planned} {Is : List Pred} (hok : planOk a0.tmps.size ps = true) (htr : ∀ a b c, R a b → R b c → R a c)
    (hmono : ∀ (j : Nat) (I : Pred), Is[j]? = some I → ∀ v w w', I v w → R w w' → I v w') {listed : Array Bool} {a : Act} {w w' : World}
    (h : Inv R ps Is a0 w0 listed a w) {j : Nat} {p : Planned} {I : Pred} (hj : ps[j]? = some p) (hI : Is[j]? = some I) (hun : listed.getD j true = false)
    (hall : ∀ e ∈ p.o.after, Region.binds .any e = true → listed.getD e.on false = true) (hR : R w w') {v : Value} (hv : I v w') :
    Inv R ps Is a0 w0 (listed.setIfInBounds j true) (a.put (some p.d) v) w' := by
  have hjl : j < listed.size := by
    rcases Nat.lt_or_ge j listed.size with h' | h'
    · exact h'
    · simp [Array.getElem?_eq_none h'] at hun
  have hset : ∀ k, k ≠ j → (listed.setIfInBounds j true).getD k true = listed.getD k true := fun k hk => getD_set_ne true (Ne.symm hk)
  have hd := (planOk_spec hok hj).1
  refine ⟨by simpa using h.size, htr _ _ _ h.world hR, by simpa [Act.put] using h.defers, by rw [size_put]; exact h.tsize, ?_, ?_, ?_⟩
  · intro k q hq hk e he hb
    by_cases hkj : k = j
    · subst hkj
      rw [hj] at hq; injection hq with hq; subst hq
      exact getD_set_true (hall e he hb)
    · rw [hset k hkj] at hk
      exact getD_set_true (h.closed k q hq hk e he hb)
  · intro k q J hq hJ hk
    by_cases hkj : k = j
    · subst hkj
      rw [hj] at hq; injection hq with hq; subst hq
      rw [hI] at hJ; injection hJ with hJ; subst hJ
      rw [getD_put_same _ _ _ (by rw [h.tsize]; exact hd)]
      exact hv
    · rw [hset k hkj] at hk
      rw [getD_put_ne _ _ _ _ (((planOk_spec hok hj).2.2 k q hq hkj).1)]
      exact hmono k J hJ _ _ _ (h.fact k q J hq hJ hk) hR
  · intro t ht
    have hpt : p.d ≠ t := ht j p hj (by simp [Array.getD, hjl])
    rw [getD_put_ne _ _ _ _ hpt]
    refine h.other t fun k q hq hk => ?_
    by_cases hkj : k = j
    · subst hkj; rw [hk] at hun; cases hun
    · exact ht k q hq (by rw [hset k hkj]; exact hk)

theorem inv_end {ps : List Planned} {Is : List Pred} (hl : Is.length = ps.length) (hok : planOk a0.tmps.size ps = true) {listed : Array Bool} {a : Act} {w : World}
    (h : Inv R ps Is a0 w0 listed a w) (hall : ∀ j, j < ps.length → listed.getD j false = true) {G : Act → Prop} (hf : FinV G w ((ps.map (·.d)).zip Is) a0) : G a := by
  refine finV_use _ a0 a hf h.tsize.symm h.defers.symm (fun f hf => ?_) fun t ht => h.other t fun j p hj _ he => ?_
  · rw [List.mem_iff_getElem?] at hf
    obtain ⟨k, hk⟩ := hf
    rw [List.getElem?_zip_eq_some] at hk
    obtain ⟨hk1, hk2⟩ := hk
    simp only [List.getElem?_map, Option.map_eq_some_iff] at hk1
    obtain ⟨q, hq, hqd⟩ := hk1
    have hkl : k < ps.length := by
      rcases Nat.lt_or_ge k ps.length with h | h
      · exact h
      · rw [List.getElem?_eq_none h] at hq; cases hq
    rw [← hqd]
    refine ⟨by rw [h.tsize]; exact (planOk_spec hok hq).1, h.fact k q f.2 hq hk2 ?_⟩
    rw [getD_true_iff (by have := h.size; omega)]
    exact hall k hkl
  · have hjl : j < ps.length := by
      rcases Nat.lt_or_ge j ps.length with h | h
      · exact h
      · rw [List.getElem?_eq_none h] at hj; cases hj
    have hI : Is[j]? = some (Is[j]'(by omega)) := List.getElem?_eq_getElem (by omega)
    refine ht (p.d, Is[j]'(by omega)) ?_ he
    rw [List.mem_iff_getElem?]
    exact ⟨j, by rw [List.getElem?_zip_eq_some]; exact ⟨by simp [hj], hI⟩⟩

def unlisted (listed : Array Bool) : Nat := listed.toList.countP (fun b => !b)

theorem count_set : ∀ (l : List Bool) (j : Nat), l[j]? = some false → (l.set j true).countP (fun b => !b) + 1 = l.countP (fun b => !b)
  | [], j, h => by simp at h
  | b :: l, 0, h => by simp at h; subst h; simp
  | b :: l, j + 1, h => by
    have := count_set l j (by simpa using h)
    simp only [List.set_cons_succ, List.countP_cons]
    omega

theorem unlisted_set {listed : Array Bool} {j : Nat} (h : listed.getD j true = false) : unlisted (listed.setIfInBounds j true) + 1 = unlisted listed := by
  have hjl : j < listed.size := by
    rcases Nat.lt_or_ge j listed.size with h' | h'
    · exact h'
    · simp [Array.getElem?_eq_none h'] at h
  unfold unlisted
  rw [Array.toList_setIfInBounds]
  refine count_set _ _ ?_
  simp [Array.getD, hjl] at h
  simp [hjl, h]

theorem unlisted_zero {listed : Array Bool} (h : unlisted listed = 0) {j : Nat} (hj : j < listed.size) : listed.getD j false = true := by
  unfold unlisted at h
  rw [List.countP_eq_zero] at h
  have := h listed[j] (by simp)
  simpa [Array.getD, hj] using this

theorem wpAny_of_mono {ps : List Planned} {Is : List Pred} (hl : Is.length = ps.length) (hplan : planOf ops ops.toList = some ps) (hok : planOk a0.tmps.size ps = true)
    (htr : ∀ a b c, R a b → R b c → R a c) (hrf : ∀ a, R a a)
    (ho : ∀ (j : Nat) (p : Planned) (I : Pred), ps[j]? = some p → Is[j]? = some I → Owes P Q R a0 w0 (factsAt ps Is j) p I)
    (hf : ∀ w, R w0 w → FinV (fun a => Q .normal a w) w ((ps.map (·.d)).zip Is) a0) :
    ∀ (fuel : Nat) (listed : Array Bool) (a : Act) (w : World), Inv R ps Is a0 w0 listed a w → unlisted listed = fuel → wpAny P .any ops Q fuel listed a w := by
  obtain ⟨hlen, hspec⟩ := planOf_spec _ _ hplan
  have hn : ops.size = ps.length := by simp [hlen]
  have hp : ∀ (j : Nat) (p : Planned), ps[j]? = some p → ops[j]? = some p.o := fun j p h => by simpa using (hspec j p h).1
  have hmono : ∀ (j : Nat) (I : Pred), Is[j]? = some I → ∀ v w w', I v w → R w w' → I v w' := fun j I hI => by
    have hjl : j < Is.length := by
      rcases Nat.lt_or_ge j Is.length with h | h
      · exact h
      · rw [List.getElem?_eq_none h] at hI; cases hI
    exact (ho j (ps[j]'(by omega)) I (List.getElem?_eq_getElem (by omega)) hI).1
  intro fuel
  induction fuel with
  | zero =>
    intro listed a w hinv hu
    have hall : ∀ j, j < ps.length → listed.getD j false = true := fun j hj => unlisted_zero hu (by rw [hinv.size]; exact hj)
    refine ⟨?_, inv_end hl hok hinv hall (hf w hinv.world)⟩
    rw [List.eq_nil_iff_forall_not_mem]
    intro j hj
    obtain ⟨h0, o, hoj, _⟩ := mem_ready.1 hj
    have hjl : j < ps.length := by
      rw [← hn]
      rcases Nat.lt_or_ge j ops.size with h | h
      · exact h
      · rw [Array.getElem?_eq_none h] at hoj; cases hoj
    rw [getD_true_iff (by rw [hinv.size]; exact hjl), hall j hjl] at h0
    cases h0
  | succ fuel ih =>
    intro listed a w hinv hu
    refine ⟨fun hr => ?_, fun j hj => ?_⟩
    · have hall := all_listed hp (fun j p h => (planOk_spec hok h).2.1) hinv.size hr
      exact inv_end hl hok hinv hall (hf w hinv.world)
    · obtain ⟨h0, o, hoj, hall⟩ := mem_ready.1 hj
      have hjl : j < ps.length := by
        rw [← hn]
        rcases Nat.lt_or_ge j ops.size with h | h
        · exact h
        · rw [Array.getElem?_eq_none h] at hoj; cases hoj
      have hpj : ps[j]? = some ps[j] := List.getElem?_eq_getElem hjl
      have hIj : Is[j]? = some (Is[j]'(by omega)) := List.getElem?_eq_getElem (by omega)
      have hoj' := hp j _ hpj
      rw [hoj] at hoj'; injection hoj' with hoj'; subst hoj'
      obtain ⟨_, hdst, hg⟩ := hspec j _ hpj
      have hob := (ho j _ _ hpj hIj).2 a w hinv.world
      have hob := hob.use (slotF_of_inv hl hok hinv hpj h0 hall)
      unfold wpOp
      rw [hoj]
      show if Region.wanted ps[j].o (yielded ops a.tmps) = true then _ else _
      rw [wanted_planned hg a]
      have hus := unlisted_set h0
      split
      · rename_i hw
        rw [if_pos hw] at hob
        refine .inl (Oper.wp_mono (fun a' w' hk => ?_) hob)
        obtain ⟨v, rfl, hR, hv⟩ := hk
        exact ih _ _ _ (inv_step hok htr hmono hinv hpj hIj h0 hall hR hv) (by omega)
      · rename_i hw
        rw [if_neg hw] at hob
        rw [hdst]
        exact ih _ _ _ (inv_step hok htr hmono hinv hpj hIj h0 hall (hrf w) hob) (by omega)

/-- **ONE WALK IN THE ORDER OF THE TEXT SERVES EVERY ORDER.** -/
theorem wp_region_mono {id : Nat} {a : Act} {w : World} {ps : List Planned} (R : World → World → Prop) (hm : P.follows .mixedOrders = true)
    (hplan : planOf ops ops.toList = some ps) {n : Nat} (hn : a.tmps.size = n) (hok : planOk n ps = true)
    (htr : ∀ a b c, R a b → R b c → R a c) (hrf : ∀ a, R a a) (hdr : R w w.drew)
    (h : wpM P Q R a w ps []) : (Code.region id ops true).wp P Q a w := by
  subst hn
  refine wp_region_any hm ?_
  obtain ⟨Is, hl, ho, hf⟩ := wpM_parts _ _ h
  have hlen : ops.size = ps.length := by simpa using ((planOf_spec _ _ hplan).1).symm
  refine wpAny_of_mono hl hplan hok htr hrf (fun j p I hp hI => by simpa using ho j p I hp hI) (fun w' hw' => by simpa using hf w' hw') _ _ _ _ ?_ ?_
  · refine ⟨by simp [hlen], hdr, rfl, rfl, ?_, ?_, fun t _ => rfl⟩
    · intro j p hp hj
      have hjl : j < ops.size := by
        rw [hlen]
        rcases Nat.lt_or_ge j ps.length with h | h
        · exact h
        · rw [List.getElem?_eq_none h] at hp; cases hp
      simp [Array.getD, hjl] at hj
    · intro j p I hp hI hj
      have hjl : j < ops.size := by
        rw [hlen]
        rcases Nat.lt_or_ge j ps.length with h | h
        · exact h
        · rw [List.getElem?_eq_none h] at hp; cases hp
      simp [Array.getD, hjl] at hj
  · simp [unlisted, List.countP_replicate, hlen]
end
end Go.Ox
