/-
  Mem, packed: what the claim needs of them.
-/
import Derived.Laws.CopyOwn
import Derived.Lib.Hide
import Derived.Lib.AppendZeros
import Derived.Lib.SlBytesConst
import Derived.WalkSpells
import Derived.WalkLawsBesides
import Derived.BigQuiet
set_option linter.unusedSimpArgs false
set_option linter.unusedVariables false
theorem Go.RowKit.Hid.o {p : Prop} (h : Go.RowKit.Hid p) : p := h.out
namespace Go.Ox
open Go.RowKit
abbrev Pred := Value → World → Prop
abbrev a3s := Option (Tmp × Bool)
def a0E (g : a3s) (a : Act) : Bool :=
 match g with
 | none => true
 | some (d, b) => match a.tmps.getD d undef with
  | .bool c => c == b
  | _ => false
def a1h (o : Oper) : List Tmp := o.op.operands.toList.filterMap fun | .tmp t => some t | _ => none
def a1Z (fs : List (Tmp × Pred)) (a0 a : Act) (w : World) (t : Tmp) : Prop :=
 match fs.find? (fun f => f.1 == t) with
 | some f => f.2 (a.tmps.getD t undef) w
 | none => a.tmps.getD t undef = a0.tmps.getD t undef
def a0n (fs : List (Tmp × Pred)) (a0 a : Act) (w : World) : List Tmp → Prop → Prop
 | [], G => G
 | t :: ts, G => a1Z fs a0 a w t → a0n fs a0 a w ts G
theorem a0n.use {fs : List (Tmp × Pred)} {a0 a : Act} {w : World} {G : Prop} : ∀ {ts : List Tmp}, a0n fs a0 a w ts G → (∀ t ∈ ts, a1Z fs a0 a w t) → G
 | [], h, _ => h
 | _ :: _, h, k => a0n.use (h (k _ (List.mem_cons_self ..))) fun t ht => k t (List.mem_cons_of_mem _ ht)
def a1K (G : Act → Prop) (w : World) : List (Tmp × Pred) → Act → Prop
 | [], a => G a
 | (d, I) :: l, a => ∀ v, I v w → a1K G w l (a.put (some d) v)
structure Planned where
 d : Tmp
 o : Oper
 g : a3s
def Planned.looks (p : Planned) : List Tmp := a1h p.o ++ (match p.g with | some (d, _) => [d] | none => [])
def Owes (P : Program) (Q : Exit → Act → World → Prop) (R : World → World → Prop) (a0 : Act) (w0 : World) (fs : List (Tmp × Pred)) (p : Planned) (I : Pred) : Prop :=
 (∀ v w w', I v w → R w w' → I v w') ∧
 ∀ (a : Act) (w : World), R w0 w → a0n fs a0 a w p.looks
  (if a0E p.g a = true then p.o.wp P a w (fun a' w' => ∃ v, a' = a.put (some p.d) v ∧ R w w' ∧ I v w') Q else I undef w)
def wpM (P : Program) (Q : Exit → Act → World → Prop) (R : World → World → Prop) (a0 : Act) (w0 : World) : List Planned → List (Tmp × Pred) → Prop
 | [], fs => ∀ w, R w0 w → a1K (fun a => Q .normal a w) w fs.reverse a0
 | p :: rest, fs => ∃ I : Pred, Owes P Q R a0 w0 fs p I ∧ wpM P Q R a0 w0 rest ((p.d, I) :: fs)
def a1p (ops : Array Oper) : List Oper → Option (List Planned)
 | [] => some []
 | o :: l =>
  match o.dst, a1p ops l with
  | some d, some r =>
   match o.guard with
   | none => some (⟨d, o, none⟩ :: r)
   | some (j, b) => match (ops[j]?).bind (·.dst) with
    | some e => some (⟨d, o, some (e, b)⟩ :: r)
    | none => none
  | _, _ => none
def a4J (o : Oper) (k : Nat) : Bool := o.after.any fun e => Region.binds .any e && e.on == k
def a19 (n : Nat) (ps : List Planned) : Bool :=
 ps.zipIdx.all fun (p, j) =>
  decide (p.d < n) &&
  p.o.after.all (fun e => !Region.binds .any e || decide (e.on < j)) &&
  ps.zipIdx.all fun (q, k) =>
   (k == j || (p.d != q.d && (!p.looks.contains q.d || (if k < j then a4J p.o k else a4J q.o j))))
section
variable {P : Program} {ops : Array Oper} {Q : Exit → Act → World → Prop} {R : World → World → Prop} {a0 : Act} {w0 : World}
theorem a0G : ∀ (l : List Oper) (ps : List Planned), a1p ops l = some ps → ps.length = l.length ∧
 ∀ (j : Nat) (p : Planned), ps[j]? = some p → l[j]? = some p.o ∧ p.o.dst = some p.d ∧ (match p.o.guard with | none => p.g = none | some (k, b) => ∃ e, (ops[k]?).bind (·.dst) = some e ∧ p.g = some (e, b))
 | [], ps, h => by
  simp [a1p] at h; subst h; simp
 | o :: l, ps, h => by
  simp only [a1p] at h
  split at h
  · rename_i d r hd hr
    obtain ⟨hl, hk⟩ := a0G l r hr
    split at h
    · rename_i hg
      injection h with h; subst h
      refine ⟨by simp [hl], fun j p hp => ?_⟩
      cases j with
      | zero => simp at hp; subst hp; simp [hd, hg]
      | succ j => simpa using hk j p (by simpa using hp)
    · rename_i k b hg
      split at h
      · rename_i e he
        injection h with h; subst h
        refine ⟨by simp [hl], fun j p hp => ?_⟩
        cases j with
        | zero => simp at hp; subst hp; simp [hd, hg, he]
        | succ j => simpa using hk j p (by simpa using hp)
      · cases h
  · cases h
theorem a1z {p : Planned} (hg : match p.o.guard with | none => p.g = none | some (k, b) => ∃ e, (ops[k]?).bind (·.dst) = some e ∧ p.g = some (e, b)) (a : Act) :
 Region.wanted p.o (yielded ops a.tmps) = a0E p.g a := by
 unfold Region.wanted a0E
 cases h : p.o.guard with
 | none => rw [h] at hg; rw [hg]
 | some kb =>
 obtain ⟨k, b⟩ := kb;rw [h] at hg;obtain ⟨e, he, hg⟩ := hg;rw [hg];simp only [yielded, he, Option.bind_some, Array.getD_eq_getD_getElem?]
 cases a.tmps[e]? with
 | none => rfl
 | some v => cases v <;> simp
def a09 (ps : List Planned) (Is : List Pred) (j : Nat) : List (Tmp × Pred) := (((ps.map (·.d)).zip Is).take j).reverse
theorem a5Z : ∀ (l : List Planned) (fs : List (Tmp × Pred)), wpM P Q R a0 w0 l fs → ∃ Is : List Pred, Is.length = l.length ∧
 (∀ (j : Nat) (p : Planned) (I : Pred), l[j]? = some p → Is[j]? = some I → Owes P Q R a0 w0 (a09 l Is j ++ fs) p I) ∧
 ∀ w, R w0 w → a1K (fun a => Q .normal a w) w (fs.reverse ++ ((l.map (·.d)).zip Is)) a0
 | [], fs, h => ⟨[], rfl, by simp, by simpa [wpM] using h⟩
 | p :: l, fs, h => by
  obtain ⟨I, ho, hr⟩ := h;obtain ⟨Is, hl, hk, hf⟩ := a5Z l _ hr;refine ⟨I :: Is, by simp [hl], fun j q J hq hJ => ?_, fun w hw => by simpa using hf w hw⟩
  cases j with
  | zero => simp at hq hJ; subst hq hJ; simpa [a09] using ho
  | succ j =>
   have := hk j q J (by simpa using hq) (by simpa using hJ)
   simpa [a09, List.append_assoc] using this
theorem size_put (a : Act) (d : Tmp) (v : Value) : (a.put (some d) v).tmps.size = a.tmps.size := by simp [Act.put]
theorem a1M (a : Act) (d : Tmp) (v : Value) (h : d < a.tmps.size) : (a.put (some d) v).tmps.getD d undef = v := by
 simp [Act.put, Array.getD, h]
theorem a1q (a : Act) (d t : Tmp) (v : Value) (h : d ≠ t) : (a.put (some d) v).tmps.getD t undef = a.tmps.getD t undef := by
 simp [Act.put, Array.getElem?_setIfInBounds_ne h]
theorem b1o {x y : Array Value} (hs : x.size = y.size) (h : ∀ t, x.getD t undef = y.getD t undef) : x = y := by
 apply Array.ext hs;intro i h1 h2;have := h i;simpa [Array.getD, h1, h2] using this
theorem a7x {G : Act → Prop} {w : World} : ∀ (l : List (Tmp × Pred)) (b a : Act), a1K G w l b → b.tmps.size = a.tmps.size → b.defers = a.defers →
 (∀ f ∈ l, f.1 < a.tmps.size ∧ f.2 (a.tmps.getD f.1 undef) w) → (∀ t, (∀ f ∈ l, f.1 ≠ t) → a.tmps.getD t undef = b.tmps.getD t undef) → G a
 | [], b, a, h, hs, hd, _, hn => by
  have : a = b := by
   cases a; cases b
   simp only [Act.mk.injEq];refine ⟨b1o hs.symm fun t => hn t (by simp), hd.symm⟩
  rw [this]; exact h
 | (d, I) :: l, b, a, h, hs, hd, hk, hn => by
  obtain ⟨h1, h2⟩ := hk (d, I) (List.mem_cons_self ..);refine a7x l _ a (h _ h2) (by rw [size_put]; exact hs) (by simpa [Act.put] using hd) (fun f hf => hk f (List.mem_cons_of_mem _ hf)) fun t ht => ?_
  by_cases he : d = t
  · subst he; rw [a1M _ _ _ (by rw [hs]; exact h1)]
  · rw [a1q _ _ _ _ he]
    exact hn t fun f hf => by
     rcases List.mem_cons.1 hf with rfl | hf
     · exact he
     · exact ht f hf
structure Inv (R : World → World → Prop) (ps : List Planned) (Is : List Pred) (a0 : Act) (w0 : World) (listed : Array Bool) (a : Act) (w : World) : Prop where
 size : listed.size = ps.length
 world : R w0 w
 defers : a.defers = a0.defers
 tsize : a.tmps.size = a0.tmps.size
 closed : ∀ (j : Nat) (p : Planned), ps[j]? = some p → listed.getD j true = true → ∀ e ∈ p.o.after, Region.binds .any e = true → listed.getD e.on false = true
 fact : ∀ (j : Nat) (p : Planned) (I : Pred), ps[j]? = some p → Is[j]? = some I → listed.getD j true = true → I (a.tmps.getD p.d undef) w
 other : ∀ t, (∀ (j : Nat) (p : Planned), ps[j]? = some p → listed.getD j true = true → p.d ≠ t) → a.tmps.getD t undef = a0.tmps.getD t undef
theorem a0j {n : Nat} {ps : List Planned} (h : a19 n ps = true) {j : Nat} {p : Planned} (hj : ps[j]? = some p) :
 p.d < n ∧ (∀ e ∈ p.o.after, Region.binds .any e = true → e.on < j) ∧
 ∀ (k : Nat) (q : Planned), ps[k]? = some q → k ≠ j → p.d ≠ q.d ∧ (q.d ∈ p.looks → if k < j then a4J p.o k = true else a4J q.o j = true) := by
 simp only [a19, List.all_eq_true] at h;have h1 := h (p, j) (by rw [List.mem_zipIdx_iff_getElem?]; exact hj)
 simp only [Bool.and_eq_true, decide_eq_true_eq, List.all_eq_true, Array.all_eq_true_iff_forall_mem, Bool.or_eq_true, Bool.not_eq_true'] at h1;obtain ⟨⟨h1, h2⟩, h3⟩ := h1;refine ⟨h1, fun e he hb => ?_, fun k q hq hne => ?_⟩
 · rcases h2 e he with h | h
   · rw [hb] at h; cases h
   exact h
 have := h3 (q, k) (by rw [List.mem_zipIdx_iff_getElem?]; exact hq)
 simp only [beq_iff_eq, bne_iff_ne, ne_eq] at this
 rcases this with h | ⟨h4, h5⟩
 · exact absurd h hne
 refine ⟨h4, fun hm => ?_⟩
 rcases h5 with h | h
 · exact absurd (List.contains_iff_mem.2 hm) (by rw [h]; simp)
 split <;> rename_i hlt <;> simpa [hlt] using h
theorem a3R {o : Oper} {k : Nat} (h : a4J o k = true) : ∃ e ∈ o.after, Region.binds .any e = true ∧ e.on = k := by
 simp only [a4J, Array.any_eq_true'] at h;obtain ⟨e, he, h⟩ := h;simp only [Bool.and_eq_true, beq_iff_eq] at h;exact ⟨e, he, h⟩
theorem a01 {listed : Array Bool} {j : Nat} (h : j < listed.size) : listed.getD j true = listed.getD j false := by simp [Array.getD, h]
theorem a61 {ps : List Planned} {Is : List Pred} (hl : Is.length = ps.length) (j : Nat) (t : Tmp) :
 (∃ (k : Nat) (q : Planned) (I : Pred), k < j ∧ ps[k]? = some q ∧ Is[k]? = some I ∧ q.d = t ∧ (a09 ps Is j).find? (fun f => f.1 == t) = some (t, I)) ∨
 ((∀ (k : Nat) (q : Planned), k < j → ps[k]? = some q → q.d ≠ t) ∧ (a09 ps Is j).find? (fun f => f.1 == t) = none) := by
 cases hf : (a09 ps Is j).find? (fun f => f.1 == t) with
 | none =>
  right
  refine ⟨fun k q hk hq he => ?_, rfl⟩
  have hkl : k < ps.length := by
   rcases Nat.lt_or_ge k ps.length with h | h
   · exact h
   rw [List.getElem?_eq_none h] at hq; cases hq
  rw [List.find?_eq_none] at hf;have hI : Is[k]? = some (Is[k]'(by omega)) := List.getElem?_eq_getElem (by omega)
  refine hf (q.d, Is[k]'(by omega)) ?_ (by simp [he])
  simp only [a09, List.mem_reverse];rw [List.mem_iff_getElem?];refine ⟨k, ?_⟩;rw [List.getElem?_take_of_lt hk, List.getElem?_zip_eq_some];exact ⟨by simp [hq], hI⟩
 | some f =>
 left
 have h1 := List.mem_of_find?_eq_some hf;have h2 := List.find?_some hf;simp only [a09, List.mem_reverse] at h1;rw [List.mem_iff_getElem?] at h1;obtain ⟨k, hk⟩ := h1
 have hkj : k < j := by
  rcases Nat.lt_or_ge k j with h | h
  · exact h
  rw [List.getElem?_take_eq_none h] at hk; cases hk
 rw [List.getElem?_take_of_lt hkj, List.getElem?_zip_eq_some] at hk;obtain ⟨hk1, hk2⟩ := hk;simp only [List.getElem?_map, Option.map_eq_some_iff] at hk1;obtain ⟨q, hq, hqd⟩ := hk1;refine ⟨k, q, f.2, hkj, hq, hk2, ?_, ?_⟩
 · rw [hqd]; simpa using h2
 have : f.1 = t := by simpa using h2
 rw [← this]
theorem a3a {ps : List Planned} {listed : Array Bool} (hp : ∀ (j : Nat) (p : Planned), ps[j]? = some p → ops[j]? = some p.o)
 (hb : ∀ (j : Nat) (p : Planned), ps[j]? = some p → ∀ e ∈ p.o.after, Region.binds .any e = true → e.on < j) (hs : listed.size = ps.length)
 (hr : Region.ready .any ops listed = []) : ∀ j, j < ps.length → listed.getD j false = true := by
 intro j
 induction j using Nat.strongRecOn with
 | ind j ih =>
 intro hj;have hpj : ps[j]? = some ps[j] := List.getElem?_eq_getElem hj
 cases hl : listed.getD j true with
 | true => rwa [a01 (by omega)] at hl
 | false =>
 exfalso;have : j ∈ Region.ready .any ops listed := mem_ready.2 ⟨hl, _, hp j _ hpj, fun e he hbe => ih e.on (hb j _ hpj e he hbe) (by have := hb j _ hpj e he hbe; omega)⟩
 rw [hr] at this
 cases this
theorem a1a {ps : List Planned} {Is : List Pred} {n : Nat} (hl : Is.length = ps.length) (hok : a19 n ps = true) {listed : Array Bool} {a : Act} {w : World}
 (h : Inv R ps Is a0 w0 listed a w) {j : Nat} {p : Planned} (hj : ps[j]? = some p) (hun : listed.getD j true = false)
 (hall : ∀ e ∈ p.o.after, Region.binds .any e = true → listed.getD e.on false = true) (t : Tmp) (ht : t ∈ p.looks) : a1Z (a09 ps Is j) a0 a w t := by
 have hjl : j < ps.length := by
  rcases Nat.lt_or_ge j ps.length with h | h
  · exact h
  rw [List.getElem?_eq_none h] at hj; cases hj
 unfold a1Z
 rcases a61 (Is := Is) hl j t with ⟨k, q, I, hk, hq, hI, hqt, hf⟩ | ⟨hno, hf⟩
 · rw [hf]
   show I (a.tmps.getD t undef) w;rw [← hqt];refine h.fact k q I hq hI ?_;have := ((a0j hok hj).2.2 k q hq (by omega)).2 (by rw [hqt]; exact ht)
   rw [if_pos hk] at this;obtain ⟨e, he, hb, hon⟩ := a3R this;have := hall e he hb;rw [hon] at this;rw [a01 (by have := h.size; omega)]
   exact this
 rw [hf];refine h.other t fun k q hq hlk he => ?_
 rcases Nat.lt_trichotomy k j with hlt | heq | hgt
 · exact hno k q hlt hq he
 · subst heq; rw [hlk] at hun; cases hun
 have := ((a0j hok hj).2.2 k q hq (by omega)).2 (by rw [he]; exact ht)
 rw [if_neg (by omega)] at this
 obtain ⟨e, hme, hb, hon⟩ := a3R this;have := h.closed k q hq hlk e hme hb;rw [hon] at this;rw [a01 (by have := h.size; omega), this] at hun
 cases hun
theorem a2l {ps : List Planned} {Is : List Pred} (hok : a19 a0.tmps.size ps = true) (htr : ∀ a b c, R a b → R b c → R a c)
 (hmono : ∀ (j : Nat) (I : Pred), Is[j]? = some I → ∀ v w w', I v w → R w w' → I v w') {listed : Array Bool} {a : Act} {w w' : World}
 (h : Inv R ps Is a0 w0 listed a w) {j : Nat} {p : Planned} {I : Pred} (hj : ps[j]? = some p) (hI : Is[j]? = some I) (hun : listed.getD j true = false)
 (hall : ∀ e ∈ p.o.after, Region.binds .any e = true → listed.getD e.on false = true) (hR : R w w') {v : Value} (hv : I v w') :
 Inv R ps Is a0 w0 (listed.setIfInBounds j true) (a.put (some p.d) v) w' := by
 have hjl : j < listed.size := by
  rcases Nat.lt_or_ge j listed.size with h' | h'
  · exact h'
  simp [Array.getElem?_eq_none h'] at hun
 have hset : ∀ k, k ≠ j → (listed.setIfInBounds j true).getD k true = listed.getD k true := fun k hk => getD_set_ne true (Ne.symm hk)
 have hd := (a0j hok hj).1;refine ⟨by simpa using h.size, htr _ _ _ h.world hR, by simpa [Act.put] using h.defers, by rw [size_put]; exact h.tsize, ?_, ?_, ?_⟩
 · intro k q hq hk e he hb
   by_cases hkj : k = j
   · subst hkj
     rw [hj] at hq; injection hq with hq; subst hq
     exact getD_set_true (hall e he hb)
   rw [hset k hkj] at hk;exact getD_set_true (h.closed k q hq hk e he hb)
 · intro k q J hq hJ hk
   by_cases hkj : k = j
   · subst hkj
     rw [hj] at hq; injection hq with hq; subst hq
     rw [hI] at hJ; injection hJ with hJ; subst hJ
     rw [a1M _ _ _ (by rw [h.tsize]; exact hd)]
     exact hv
   rw [hset k hkj] at hk;rw [a1q _ _ _ _ (((a0j hok hj).2.2 k q hq hkj).1)];exact hmono k J hJ _ _ _ (h.fact k q J hq hJ hk) hR
 intro t ht;have hpt : p.d ≠ t := ht j p hj (by simp [Array.getD, hjl])
 rw [a1q _ _ _ _ hpt];refine h.other t fun k q hq hk => ?_
 by_cases hkj : k = j
 · subst hkj; rw [hk] at hun; cases hun
 exact ht k q hq (by rw [hset k hkj]; exact hk)
theorem a5q {ps : List Planned} {Is : List Pred} (hl : Is.length = ps.length) (hok : a19 a0.tmps.size ps = true) {listed : Array Bool} {a : Act} {w : World}
 (h : Inv R ps Is a0 w0 listed a w) (hall : ∀ j, j < ps.length → listed.getD j false = true) {G : Act → Prop} (hf : a1K G w ((ps.map (·.d)).zip Is) a0) : G a := by
 refine a7x _ a0 a hf h.tsize.symm h.defers.symm (fun f hf => ?_) fun t ht => h.other t fun j p hj _ he => ?_
 · rw [List.mem_iff_getElem?] at hf
   obtain ⟨k, hk⟩ := hf;rw [List.getElem?_zip_eq_some] at hk;obtain ⟨hk1, hk2⟩ := hk;simp only [List.getElem?_map, Option.map_eq_some_iff] at hk1;obtain ⟨q, hq, hqd⟩ := hk1
   have hkl : k < ps.length := by
    rcases Nat.lt_or_ge k ps.length with h | h
    · exact h
    rw [List.getElem?_eq_none h] at hq; cases hq
   rw [← hqd];refine ⟨by rw [h.tsize]; exact (a0j hok hq).1, h.fact k q f.2 hq hk2 ?_⟩
   rw [a01 (by have := h.size; omega)]
   exact hall k hkl
 have hjl : j < ps.length := by
  rcases Nat.lt_or_ge j ps.length with h | h
  · exact h
  · rw [List.getElem?_eq_none h] at hj; cases hj
 have hI : Is[j]? = some (Is[j]'(by omega)) := List.getElem?_eq_getElem (by omega)
 refine ht (p.d, Is[j]'(by omega)) ?_ he
 rw [List.mem_iff_getElem?];exact ⟨j, by rw [List.getElem?_zip_eq_some]; exact ⟨by simp [hj], hI⟩⟩
def a0h (listed : Array Bool) : Nat := listed.toList.countP (fun b => !b)
theorem count_set : ∀ (l : List Bool) (j : Nat), l[j]? = some false → (l.set j true).countP (fun b => !b) + 1 = l.countP (fun b => !b)
 | [], j, h => by simp at h
 | b :: l, 0, h => by simp at h; subst h; simp
 | b :: l, j + 1, h => by
  have := count_set l j (by simpa using h)
  simp only [List.set_cons_succ, List.countP_cons];omega
theorem a1t {listed : Array Bool} {j : Nat} (h : listed.getD j true = false) : a0h (listed.setIfInBounds j true) + 1 = a0h listed := by
 have hjl : j < listed.size := by
  rcases Nat.lt_or_ge j listed.size with h' | h'
  · exact h'
  simp [Array.getElem?_eq_none h'] at h
 unfold a0h;rw [Array.toList_setIfInBounds];refine count_set _ _ ?_;simp [Array.getD, hjl] at h;simp [hjl, h]
theorem a1i {listed : Array Bool} (h : a0h listed = 0) {j : Nat} (hj : j < listed.size) : listed.getD j false = true := by
 unfold a0h at h;rw [List.countP_eq_zero] at h;have := h listed[j] (by simp)
 simpa [Array.getD, hj] using this
theorem a5r {ps : List Planned} {Is : List Pred} (hl : Is.length = ps.length) (hplan : a1p ops ops.toList = some ps) (hok : a19 a0.tmps.size ps = true)
 (htr : ∀ a b c, R a b → R b c → R a c) (hrf : ∀ a, R a a)
 (ho : ∀ (j : Nat) (p : Planned) (I : Pred), ps[j]? = some p → Is[j]? = some I → Owes P Q R a0 w0 (a09 ps Is j) p I)
 (hf : ∀ w, R w0 w → a1K (fun a => Q .normal a w) w ((ps.map (·.d)).zip Is) a0) :
 ∀ (fuel : Nat) (listed : Array Bool) (a : Act) (w : World), Inv R ps Is a0 w0 listed a w → a0h listed = fuel → wpAny P .any ops Q fuel listed a w := by
 obtain ⟨hlen, hspec⟩ := a0G _ _ hplan;have hn : ops.size = ps.length := by simp [hlen]
 have hp : ∀ (j : Nat) (p : Planned), ps[j]? = some p → ops[j]? = some p.o := fun j p h => by simpa using (hspec j p h).1
 have hmono : ∀ (j : Nat) (I : Pred), Is[j]? = some I → ∀ v w w', I v w → R w w' → I v w' := fun j I hI => by
  have hjl : j < Is.length := by
   rcases Nat.lt_or_ge j Is.length with h | h
   · exact h
   rw [List.getElem?_eq_none h] at hI; cases hI
  exact (ho j (ps[j]'(by omega)) I (List.getElem?_eq_getElem (by omega)) hI).1
 intro fuel
 induction fuel with
 | zero =>
  intro listed a w hinv hu;have hall : ∀ j, j < ps.length → listed.getD j false = true := fun j hj => a1i hu (by rw [hinv.size]; exact hj)
  refine ⟨?_, a5q hl hok hinv hall (hf w hinv.world)⟩;rw [List.eq_nil_iff_forall_not_mem];intro j hj;obtain ⟨h0, o, hoj, _⟩ := mem_ready.1 hj
  have hjl : j < ps.length := by
   rw [← hn]
   rcases Nat.lt_or_ge j ops.size with h | h
   · exact h
   rw [Array.getElem?_eq_none h] at hoj; cases hoj
  rw [a01 (by rw [hinv.size]; exact hjl), hall j hjl] at h0
  cases h0
 | succ fuel ih =>
 intro listed a w hinv hu;refine ⟨fun hr => ?_, fun j hj => ?_⟩
 · have hall := a3a hp (fun j p h => (a0j hok h).2.1) hinv.size hr
   exact a5q hl hok hinv hall (hf w hinv.world)
 obtain ⟨h0, o, hoj, hall⟩ := mem_ready.1 hj
 have hjl : j < ps.length := by
  rw [← hn]
  rcases Nat.lt_or_ge j ops.size with h | h
  · exact h
  rw [Array.getElem?_eq_none h] at hoj; cases hoj
 have hpj : ps[j]? = some ps[j] := List.getElem?_eq_getElem hjl;have hIj : Is[j]? = some (Is[j]'(by omega)) := List.getElem?_eq_getElem (by omega)
 have hoj' := hp j _ hpj;rw [hoj] at hoj'; injection hoj' with hoj'; subst hoj'
 obtain ⟨_, hdst, hg⟩ := hspec j _ hpj;have hob := (ho j _ _ hpj hIj).2 a w hinv.world;have hob := hob.use (a1a hl hok hinv hpj h0 hall);unfold wpOp;rw [hoj]
 show if Region.wanted ps[j].o (yielded ops a.tmps) = true then _ else _
 rw [a1z hg a];have hus := a1t h0
 split
 · rename_i hw
   rw [if_pos hw] at hob;refine .inl (Oper.wp_mono (fun a' w' hk => ?_) hob)
   obtain ⟨v, rfl, hR, hv⟩ := hk;exact ih _ _ _ (a2l hok htr hmono hinv hpj hIj h0 hall hR hv) (by omega)
 rename_i hw
 rw [if_neg hw] at hob;rw [hdst];exact ih _ _ _ (a2l hok htr hmono hinv hpj hIj h0 hall (hrf w) hob) (by omega)
theorem a4F {id : Nat} {a : Act} {w : World} {ps : List Planned} (R : World → World → Prop) (hm : P.follows .mixedOrders = true)
 (hplan : a1p ops ops.toList = some ps) {n : Nat} (hn : a.tmps.size = n) (hok : a19 n ps = true)
 (htr : ∀ a b c, R a b → R b c → R a c) (hrf : ∀ a, R a a) (hdr : R w w.drew)
 (h : wpM P Q R a w ps []) : (Code.region id ops true).wp P Q a w := by
 subst hn;refine wp_region_any hm ?_;obtain ⟨Is, hl, ho, hf⟩ := a5Z _ _ h;have hlen : ops.size = ps.length := by simpa using ((a0G _ _ hplan).1).symm
 refine a5r hl hplan hok htr hrf (fun j p I hp hI => by simpa using ho j p I hp hI) (fun w' hw' => by simpa using hf w' hw') _ _ _ _ ?_ ?_
 · refine ⟨by simp [hlen], hdr, rfl, rfl, ?_, ?_, fun t _ => rfl⟩
   · intro j p hp hj
     have hjl : j < ops.size := by
      rw [hlen]
      rcases Nat.lt_or_ge j ps.length with h | h
      · exact h
      rw [List.getElem?_eq_none h] at hp; cases hp
     simp [Array.getD, hjl] at hj
   intro j p I hp hI hj
   have hjl : j < ops.size := by
    rw [hlen]
    rcases Nat.lt_or_ge j ps.length with h | h
    · exact h
    rw [List.getElem?_eq_none h] at hp; cases hp
   simp [Array.getD, hjl] at hj
 simp [a0h, List.countP_replicate, hlen]
end
end Go.Ox
namespace Go.Ox
open Go.RowKit
@[irreducible] def n8 (b : UInt8) : Int := (b.toNat : Int)
theorem n8_lo (b : UInt8) : 0 ≤ n8 b := by unfold n8; omega
theorem n8_hi (b : UInt8) : n8 b < 256 := by unfold n8; have := b.toNat_lt; omega
theorem n8_of {n : Nat} (h : n < 256) : n8 (UInt8.ofNat n) = (n : Int) := by
 unfold n8; rw [UInt8.toNat_ofNat_of_lt' (by simpa using h)]
def Ext (w w' : World) : Prop := Below w.heap.size w w'
theorem Ext.refl (w : World) : Ext w w := Below.refl _ _
theorem Ext.trans {a b c : World} (h : Ext a b) (k : Ext b c) : Ext a c := Below.trans h (Below.mono k h.size)
theorem Ext.drew {a b : World} (h : Ext a b) : Ext a b.drew := Below.drew h
theorem Ext.alloc {a b : World} (h : Ext a b) (o : Obj) : Ext a (b.alloc o) := Below.alloc h h.size o
theorem Ext.setCell {a b : World} (h : Ext a b) {p : Addr} (hp : a.heap.size ≤ p.block) (u : Value) : Ext a (b.setCell p u) := Below.setCell h hp u
theorem Ext.below {a b : World} (h : Ext a b) : Below a.heap.size a b := h
theorem Ext.grown {a b c : World} {row : Option Nat} (h : Ext a b) (hg : b.grownBy c row) (hr : ∀ k, row = some k → a.heap.size ≤ k) : Ext a c := Below.grown h hg h.size hr
theorem Ext.size {a b : World} (h : Ext a b) : a.heap.size ≤ b.heap.size := Below.size h
theorem Ext.cell {w w' : World} (h : Ext w w') {a : Addr} {v : Value} (hc : w.cell? a = some v) : w'.cell? a = some v := by
 rw [Below.cell h (World.block_lt_of_cell? w a hc)]; exact hc
theorem Ext.block {w w' : World} (h : Ext w w') {k : Nat} (hk : k < w.heap.size) : w'.heap[k]? = w.heap[k]? := Below.block h k hk
structure RdA (w : World) (size : Nat) (A : Option Addr) (n c : Nat) (xs : List Value) : Prop where
 len : xs.length = n * size
 nc : n ≤ c
 cm : c ≤ maxLen
 nil : A = none → c = 0
 at_ : ∀ ad, A = some ad → ∀ j u, xs[j]? = some u → ad.spot = none ∧ w.cell? ⟨ad.block, ad.off + j, none⟩ = some u
def Rd (w : World) (size : Nat) (v : Value) (n : Nat) (xs : List Value) : Prop := ∃ A c, v = .slice A n c ∧ RdA w size A n c xs
section
variable {w w' : World} {size n c : Nat} {A : Option Addr} {v : Value} {xs : List Value}
theorem RdA.ext (h : RdA w size A n c xs) (he : Ext w w') : RdA w' size A n c xs :=
 ⟨h.len, h.nc, h.cm, h.nil, fun ad ha j u hu => ⟨(h.at_ ad ha j u hu).1, he.cell (h.at_ ad ha j u hu).2⟩⟩
theorem Rd.ext (h : Rd w size v n xs) (he : Ext w w') : Rd w' size v n xs := by
 obtain ⟨A, c, rfl, h⟩ := h;exact ⟨A, c, rfl, h.ext he⟩
theorem Rd.nil (w : World) (size : Nat) : Rd w size (.slice none 0 0) 0 [] :=
 ⟨none, 0, rfl, by simp, Nat.le_refl _, by unfold maxLen; omega, fun _ => rfl, fun ad h => by cases h⟩
theorem RdA.addr (h : RdA w size A n c xs) (hn : 0 < n) (hs : 0 < size := by omega) : ∃ b o, A = some ⟨b, o, none⟩ := by
 cases A with
 | none => have := h.nil rfl; have := h.nc; omega
 | some ad =>
 obtain ⟨b, o, s⟩ := ad;have h0 : 0 < xs.length := by rw [h.len]; exact Nat.mul_pos hn hs
 obtain ⟨hs, _⟩ := h.at_ _ rfl 0 _ (List.getElem?_eq_getElem h0);simp at hs; subst hs;exact ⟨b, o, rfl⟩
theorem RdA.get {b o : Nat} (h : RdA w size (.some ⟨b, o, none⟩) n c xs) {j : Nat} {u : Value} (hu : xs[j]? = .some u) : w.cell? ⟨b, o + j, none⟩ = .some u := (h.at_ _ rfl j u hu).2
theorem RdA.drop (h : RdA w size A n c xs) {k : Nat} (hk : k ≤ n) :
 RdA w size (if c = k then A else A.map (·.add (k * size))) (n - k) (c - k) (xs.drop (k * size)) := by
 refine ⟨by rw [List.length_drop, h.len, Nat.sub_mul], by have := h.nc; omega, by have := h.cm; omega, ?_, ?_⟩
 · intro he
   split at he
   · rename_i hc; have := h.nil he; omega
   have : A = none := by cases A <;> simp_all
   have := h.nil this; omega
 intro ad he j u hu
 split at he
 · rename_i hc
   exfalso;have h1 := h.nc;have : (xs.drop (k * size)).length = 0 := by rw [List.length_drop, h.len, ← Nat.sub_mul, show n - k = 0 by omega, Nat.zero_mul]
   rw [List.eq_nil_of_length_eq_zero this] at hu;simp at hu
 cases A with
 | none => simp at he
 | some a0 =>
  simp only [Option.map_some, Option.some.injEq] at he;obtain ⟨hs, hcell⟩ := h.at_ a0 rfl (k * size + j) u (by rw [← hu, List.getElem?_drop])
  obtain ⟨b, o, s⟩ := a0;simp at hs; subst hs;have : ad = ⟨b, o + k * size, none⟩ := by rw [← he]; unfold Addr.add; split <;> simp_all
  subst this;refine ⟨rfl, ?_⟩;simpa [Nat.add_assoc] using hcell
theorem RdA.take (h : RdA w size A n c xs) {k : Nat} (hk : k ≤ n) : RdA w size A k c (xs.take (k * size)) := by
 refine ⟨?_, by have := h.nc; omega, h.cm, h.nil, fun ad ha j u hu => h.at_ ad ha j u ?_⟩
 · rw [List.length_take, h.len, Nat.min_eq_left (Nat.mul_le_mul_right _ hk)]
 rw [List.getElem?_take] at hu
 split at hu
 · exact hu
 cases hu
theorem Rd.a3t {base : Nat} {e : TypeId} (h : w.ownsRow base e size v n xs) : Rd w size v n xs := by
 obtain ⟨hl, h2⟩ := h
 rcases h2 with ⟨rfl, rfl⟩ | ⟨g, cap, cur, rfl, hb, hh, hnc, hcm, hcs, hxs⟩
 · exact ⟨none, 0, rfl, hl, Nat.le_refl _, by unfold maxLen; omega, fun _ => rfl, fun ad h => by cases h⟩
 refine ⟨.some ⟨g, 0, none⟩, cap, rfl, hl, hnc, hcm, (fun h => by cases h), fun ad ha j u hu => ?_⟩
 injection ha with ha; subst ha
 refine ⟨rfl, ?_⟩;simp only [Nat.zero_add, World.cell?, hh];rw [← hxs, List.getElem?_take] at hu
 split at hu
 · simpa using hu
 cases hu
end
def Blk (w : World) (g : Nat) (t : TypeId) (cs : Array Value) : Prop := w.heap[g]? = some (.cells cs t (0, 0))
section
variable {w w' : World} {g : Nat} {t : TypeId} {cs : Array Value}
theorem Blk.lt (h : Blk w g t cs) : g < w.heap.size := by
 rcases Nat.lt_or_ge g w.heap.size with hlt | hge
 · exact hlt
 unfold Blk at h; rw [Array.getElem?_eq_none hge] at h; cases h
theorem Blk.cell (h : Blk w g t cs) (i : Nat) : w.cell? ⟨g, i, none⟩ = cs[i]? := cell_of_row w g i cs t (0, 0) h
theorem Blk.frozen (h : Blk w g t cs) (i : Nat) : w.frozen? ⟨g, i, none⟩ = false := by
 unfold Blk at h;simp [World.frozen?, h]
theorem Blk.new (w : World) (t : TypeId) (cs : Array Value) : Blk (w.alloc (.cells cs t)) w.heap.size t cs := heap_alloc_new w _
theorem Blk.c0 {w : World} {g : Nat} {t : TypeId} {a0 : Value} {l : List Value} (h : Blk w g t (a0 :: l).toArray) : w.cell? ⟨g, 0, none⟩ = some a0 := by simpa using h.cell 0
theorem Blk.c1 {w : World} {g : Nat} {t : TypeId} {a0 a1 : Value} {l : List Value} (h : Blk w g t (a0 :: a1 :: l).toArray) : w.cell? ⟨g, 1, none⟩ = some a1 := by simpa using h.cell 1
theorem Blk.c2 {w : World} {g : Nat} {t : TypeId} {a0 a1 a2 : Value} {l : List Value} (h : Blk w g t (a0 :: a1 :: a2 :: l).toArray) : w.cell? ⟨g, 2, none⟩ = some a2 := by simpa using h.cell 2
theorem Blk.c3 {w : World} {g : Nat} {t : TypeId} {a0 a1 a2 a3 : Value} {l : List Value} (h : Blk w g t (a0 :: a1 :: a2 :: a3 :: l).toArray) : w.cell? ⟨g, 3, none⟩ = some a3 := by simpa using h.cell 3
theorem Blk.c4 {w : World} {g : Nat} {t : TypeId} {a0 a1 a2 a3 a4 : Value} {l : List Value} (h : Blk w g t (a0 :: a1 :: a2 :: a3 :: a4 :: l).toArray) : w.cell? ⟨g, 4, none⟩ = some a4 := by simpa using h.cell 4
theorem Blk.c5 {w : World} {g : Nat} {t : TypeId} {a0 a1 a2 a3 a4 a5 : Value} {l : List Value} (h : Blk w g t (a0 :: a1 :: a2 :: a3 :: a4 :: a5 :: l).toArray) : w.cell? ⟨g, 5, none⟩ = some a5 := by simpa using h.cell 5
theorem Blk.c6 {w : World} {g : Nat} {t : TypeId} {a0 a1 a2 a3 a4 a5 a6 : Value} {l : List Value} (h : Blk w g t (a0 :: a1 :: a2 :: a3 :: a4 :: a5 :: a6 :: l).toArray) : w.cell? ⟨g, 6, none⟩ = some a6 := by simpa using h.cell 6
theorem Blk.c7 {w : World} {g : Nat} {t : TypeId} {a0 a1 a2 a3 a4 a5 a6 a7 : Value} {l : List Value} (h : Blk w g t (a0 :: a1 :: a2 :: a3 :: a4 :: a5 :: a6 :: a7 :: l).toArray) : w.cell? ⟨g, 7, none⟩ = some a7 := by simpa using h.cell 7
theorem Blk.a0U (h : Blk w g t cs) (i : Nat) (u : Value) : Blk (w.setCell ⟨g, i, none⟩ u) g t (cs.setIfInBounds i u) := by
 unfold Blk at h ⊢;simp [World.setCell, Array.getElem?_modify, h]
theorem Blk.far (h : Blk w g t cs) {p : Addr} (hp : g ≠ p.block) (u : Value) : Blk (w.setCell p u) g t cs := (Below.heap_setCell w p u g hp).trans h
theorem Blk.ext (h : Blk w g t cs) (he : Ext w w') : Blk w' g t cs := (he.block h.lt).trans h
end
def a0X (b : UInt8) : Value := .int .u8 (n8 b)
def RB (w : World) (v : Value) (l : List UInt8) : Prop := Rd w 1 v l.length (l.map a0X)
theorem RB.ext {w w' : World} {v : Value} {l : List UInt8} (h : RB w v l) (he : Ext w w') : RB w' v l := Rd.ext h he
def OB (E base : Nat) (w : World) (v : Value) (l : List UInt8) : Prop := w.ownsRow base E 1 v l.length (l.map a0X)
theorem OB.rb {E base : Nat} {w : World} {v : Value} {l : List UInt8} (h : OB E base w v l) : RB w v l := Rd.a3t h
theorem a2u {w : World} {base base' : Nat} {E size n : Nat} {v : Value} {xs : List Value} (h : w.ownsRow base E size v n xs) (hb : base' ≤ base) : w.ownsRow base' E size v n xs := by
 obtain ⟨h1, h2⟩ := h;refine ⟨h1, ?_⟩
 rcases h2 with h2 | ⟨g, cap, cur, hv, hg, r⟩
 · exact .inl h2
 exact .inr ⟨g, cap, cur, hv, by omega, r⟩
theorem OB.low {E base base' : Nat} {w : World} {v : Value} {l : List UInt8} (h : OB E base w v l) (hb : base' ≤ base) : OB E base' w v l := a2u h hb
theorem a1N {w w' : World} {base : Nat} {E size n : Nat} {v : Value} {xs : List Value} (h : w.ownsRow base E size v n xs) (he : Ext w w') : w'.ownsRow base E size v n xs :=
 h.kept (row := none) ⟨he.os, he.tape, he.output, he.size, fun k hk _ => he.block hk⟩ (by cases v.ownBlock <;> simp)
theorem OB.ext {E base : Nat} {w w' : World} {v : Value} {l : List UInt8} (h : OB E base w v l) (he : Ext w w') : OB E base w' v l := a1N h he
theorem RB.form {w : World} {v : Value} {l : List UInt8} (h : RB w v l) : ∃ A c, v = .slice A l.length c := by
 obtain ⟨A, c, h, _⟩ := h;exact ⟨A, c, h⟩
theorem OB.form {E base : Nat} {w : World} {v : Value} {l : List UInt8} (h : OB E base w v l) : ∃ A c, v = .slice A l.length c := h.rb.form
theorem RB.rd {w : World} {v : Value} {l : List UInt8} (h : RB w v l) : Rd w 1 v l.length (l.map a0X) := h
theorem OB.own {E base : Nat} {w : World} {v : Value} {l : List UInt8} (h : OB E base w v l) : w.ownsRow base E 1 v l.length (l.map a0X) := h
structure Elem (P : Program) (t e : TypeId) (z : Value) (size bytes : Nat) : Prop where
 under : P.underlying t = some (.slice e)
 info : ∃ i, P.info? e = some i ∧ i.zero = some z ∧ i.size = size ∧ i.bytes = bytes
 zs : z.cells.size = size
 pos : 0 < size
theorem Elem.mk' {P : Program} {t e : TypeId} {z : Value} {size bytes : Nat} (h1 : P.underlying t = some (.slice e))
 (h2 : (P.info? e).map (fun i => (i.zero, i.size, i.bytes)) = some (some z, size, bytes)) (h3 : z.cells.size = size) (h4 : 0 < size) : Elem P t e z size bytes :=
 ⟨h1, info_parts h2, h3, h4⟩
theorem a3S (l : List UInt8) : ∀ u ∈ l.map a0X, u.oneCell' = true := by
 intro u hu;obtain ⟨b, _, rfl⟩ := List.mem_map.1 hu;rfl
structure Appended (w w' : World) (base E size : Nat) (v v' : Value) (n m : Nat) (xs news : List Value) : Prop where
 own : w'.ownsRow base E size v' (n + m) (xs ++ news)
 grown : w.grownBy w' v.ownBlock
 at_ : v'.ownBlock = v.ownBlock ∨ v'.ownBlock = some w.heap.size
 base_le : base ≤ w.heap.size
theorem Appended.ext {w0 w w' : World} {base E size : Nat} {v v' : Value} {n m : Nat} {xs news : List Value} (h : Appended w w' base E size v v' n m xs news) (he : Ext w0 w) (hb : base = w0.heap.size)
 (ho : w.ownsRow base E size v n xs) : Ext w0 w' :=
 he.grown h.grown fun k hk => by have := (ho.lt k hk).1; omega
section
variable {P : Program} {t e : TypeId} {z : Value} {size bytes : Nat}
theorem b3a (el : Elem P t e z size bytes) (w : World) (ty : TypeId) (base : Nat) (v : Value) (n : Nat) (xs : List Value) (hown : w.ownsRow base e size v n xs)
 (A : Option Addr) (m c : Nat) (news : List Value) (hr : RdA w size A m c news) (h1 : ∀ u ∈ news, u.oneCell' = true)
 (hbytes : (n + m) * bytes ≤ 140737488355328) (hm : n + m ≤ maxLen) (hbase : base ≤ w.heap.size) :
 ∃ v' w', (Builtin.append_ #[t, t] ty #[v, .slice A m c]).run P w = .ok v' w' ∧ Appended w w' base e size v v' n m xs news := by
 obtain ⟨i, hi, hz, hs, hb⟩ := el.info
 rcases A with _ | ad
 · have hm : m = 0 := by have := hr.nil rfl; have := hr.nc; omega
   subst hm;have hn : news = [] := List.eq_nil_of_length_eq_zero (by simpa using hr.len)
   subst hn;refine ⟨v, w, ?_, by simpa using hown, World.grownBy.refl w _, .inl rfl, hbase⟩
   rcases hown.2 with ⟨rfl, rfl⟩ | ⟨g, cap, cur, rfl, _, _, hnc, _⟩
   · simp [Builtin.append_, run_underlying el.under, sizeOf, typeInfo, hi, Builtin.lenOf, Builtin.firstCells]
   simp [Builtin.append_, run_underlying el.under, sizeOf, typeInfo, hi, Builtin.lenOf, Builtin.firstCells, hnc, storeCells]
 have hcells : ∀ j u, news[j]? = some u → w.cell? (ad.add j) = some u := fun j u hu => by
  obtain ⟨hs', this⟩ := hr.at_ _ rfl j u hu;obtain ⟨b, o, s⟩ := ad;simp only at hs'; subst hs';unfold Addr.add
  split
  · rename_i h0; subst h0; simpa using this
  · exact this
 obtain ⟨v', w', hrun, h2, h3, _, h5⟩ := run_append_own_at (P := P) w base t ty e i z size bytes el.under hi hz hs hb el.zs el.pos v n xs hown _ m c news hr.len hcells h1 hm hbytes hbase;exact ⟨v', w', hrun, h2, h3, h5, hbase⟩
theorem a9c {o : Oper} {a : Act} {K : Act → World → Prop} {Q : Exit → Act → World → Prop} (el : Elem P t e z size bytes) (w : World) (s x : Operand)
 (ho : o.op = .call { callee := .builtin .append, args := #[s, x], argTypes := #[t, t] })
 (base : Nat) (v : Value) (n : Nat) (xs : List Value) (hs : a.eval s = v) (hown : w.ownsRow base e size v n xs)
 (vx : Value) (m : Nat) (news : List Value) (hx : a.eval x = vx) (hr : Rd w size vx m news) (h1 : ∀ u ∈ news, u.oneCell' = true)
 (hbytes : (n + m) * bytes ≤ 140737488355328) (hm : n + m ≤ maxLen) (hbase : base ≤ w.heap.size)
 (h : ∀ v' w', Appended w w' base e size v v' n m xs news → K (a.put o.dst v') w') : o.wp P a w K Q := by
 obtain ⟨A, c, rfl, hr⟩ := hr;obtain ⟨v', w', hrun, h2⟩ := b3a el w o.type base v n xs hown A m c news hr h1 hbytes hm hbase;exact Go.Lib.wp_append_run w s x t t ho _ _ hs hx v' w' hrun (h v' w' h2)
theorem a0J {ops : Array Oper} {rest : List Oper} {o : Oper} {a : Act} {Q : Exit → Act → World → Prop} (hgd : o.guard = none) (el : Elem P t e z size bytes) (w : World) (s x : Operand)
 (ho : o.op = .call { callee := .builtin .append, args := #[s, x], argTypes := #[t, t] })
 (base : Nat) (v : Value) (n : Nat) (xs : List Value) (hs : a.eval s = v) (hown : w.ownsRow base e size v n xs)
 (vx : Value) (m : Nat) (news : List Value) (hx : a.eval x = vx) (hr : Rd w size vx m news) (h1 : ∀ u ∈ news, u.oneCell' = true)
 (hbytes : (n + m) * bytes ≤ 140737488355328) (hm : n + m ≤ maxLen) (hbase : base ≤ w.heap.size)
 (h : ∀ v' w', Appended w w' base e size v v' n m xs news → wpList P ops Q rest (a.put o.dst v') w') : wpList P ops Q (o :: rest) a w :=
 wpList_plain hgd fun _ hK => a9c el w s x ho base v n xs hs hown vx m news hx hr h1 hbytes hm hbase fun v' w' h2 => hK _ _ (h v' w' h2)
theorem Rd.lit (w : World) (cs : Array Value) (E n : Nat) (hs : cs.size = n * size) (hm : n ≤ maxLen) :
 Rd (w.alloc (.cells cs E)) size (.slice (some ⟨w.heap.size, 0, none⟩) n n) n cs.toList :=
 Rd.a3t (World.ownsRow_lit (base := 0) (e := E) w cs n (Nat.zero_le _) hm hs)
theorem a9d {ops : Array Oper} {rest : List Oper} {o : Oper} {a : Act} {Q : Exit → Act → World → Prop} (hgd : o.guard = none) (el : Elem P t e z size bytes) (w : World) (x y : Operand)
 (ho : o.op = Op.makeSlice t x y) (n : Nat) (hx : a.eval x = .int .i64 (n : Int)) (hy : a.eval y = .int .i64 (n : Int)) (hb : bytes * n ≤ 281474976710656) (hm : n ≤ maxLen)
 (h : ∀ v' w', v' = .slice (some ⟨w.heap.size, 0, none⟩) n n → w'.ownsRow w.heap.size e size v' n (madeCells z.cells (n * size)).toList → Ext w w' → wpList P ops Q rest (a.put o.dst v') w') : wpList P ops Q (o :: rest) a w := by
 obtain ⟨i, hi, hz, hs, hby⟩ := el.info;refine wpList_make_full w hgd x y t ho w.heap.size e i z size el.under hi hz hs .i64 .i64 (n : Int) (n : Int) n hx hy rfl rfl (by rw [hby]; exact hb) hm (Nat.le_refl _) fun w' h1 h2 => ?_
 exact h _ w' rfl h1 ((Ext.refl w).grown h2 fun k hk => by cases hk)
end
theorem OB.app {E base : Nat} {w : World} {v : Value} {l l' : List UInt8} (h : w.ownsRow base E 1 v (l.length + l'.length) (l.map a0X ++ l'.map a0X)) : OB E base w v (l ++ l') := by
 unfold OB;rw [List.length_append, List.map_append];exact h
theorem OB.at_ {E base : Nat} {w : World} {g n c : Nat} {l : List UInt8} (h : OB E base w (.slice (some ⟨g, 0, none⟩) n c) l) {j : Nat} (hj : j < l.length) :
 w.cell? ⟨g, j, none⟩ = some (.int .u8 (n8 l[j])) ∧ w.frozen? ⟨g, j, none⟩ = false ∧ base ≤ g := by
 obtain ⟨A', c', he⟩ := h.form;injection he with h1 h2 h3
 subst h1 h2 h3;have ho := h.own;refine ⟨?_, ho.frozenAt j, (ho.lt g rfl).1⟩;rw [ho.cellAt j (by omega), List.getElem?_map, List.getElem?_eq_getElem hj]
 rfl
theorem OB.stored {E base : Nat} {w : World} {g n c : Nat} {l : List UInt8} (h : OB E base w (.slice (some ⟨g, 0, none⟩) n c) l) (j : Nat) (x : UInt8) :
 OB E base (w.setCell ⟨g, j, none⟩ (a0X x)) (.slice (some ⟨g, 0, none⟩) n c) (l.set j x) := by
 obtain ⟨A', c', he⟩ := h.form;injection he with h1 h2 h3
 subst h1 h2 h3;have := h.own.stored j (a0X x);unfold OB;rw [List.length_set, List.map_set];exact this.1
theorem RB.takeS {w : World} {A : Option Addr} {c : Nat} {l : List UInt8} (h : RB w (.slice A l.length c) l) {k : Nat} (hk : k ≤ l.length) :
 RB w (.slice A k c) (l.take k) := by
 obtain ⟨A', c', he, h⟩ := h;injection he with h1 h2 h3
 subst h1; subst h3;have := h.take hk;rw [Nat.mul_one] at this;have hl : (l.take k).length = k := by rw [List.length_take, Nat.min_eq_left hk]
 exact ⟨_, _, by rw [hl], by rw [hl, List.map_take]; exact this⟩
theorem RB.nc {w : World} {A : Option Addr} {c n : Nat} {l : List UInt8} (h : RB w (.slice A n c) l) : l.length ≤ c ∧ c ≤ maxLen := by
 obtain ⟨A', c', he, h⟩ := h;injection he with h1 h2 h3
 subst h3;exact ⟨h.nc, h.cm⟩
section
variable {P : Program} {Q : Exit → Act → World → Prop} {R : World → World → Prop} {a0 : Act} {w0 : World} {rest : List Planned} {fs : List (Tmp × Pred)} {d : Tmp} {o : Oper} {g : a3s}
theorem a0e {R : World → World → Prop} {X : Value} : ∀ v w w', (fun (v : Value) (_ : World) => v = X) v w → R w w' → (fun (v : Value) (_ : World) => v = X) v w' := fun _ _ _ h _ => h
def a0V (fs : List (Tmp × Pred)) : a3s → Prop
 | none => True
 | some (e, b) => fs.find? (fun f => f.1 == e) = some (e, fun v _ => v = .bool b)
theorem a3T {fs : List (Tmp × Pred)} : a0V fs none := trivial
theorem a9e {fs : List (Tmp × Pred)} {e : Tmp} {b : Bool} (h : fs.find? (fun f => f.1 == e) = some (e, fun v _ => v = .bool b)) : a0V fs (some (e, b)) := h
theorem a1O {fs : List (Tmp × Pred)} {a0 a : Act} {w : World} {G : Prop} : ∀ (xs ys : List Tmp), a0n fs a0 a w xs (a0n fs a0 a w ys G) → a0n fs a0 a w (xs ++ ys) G
 | [], _, h => h
 | _ :: xs, ys, h => fun hs => a1O xs ys (h hs)
theorem a0u {fs : List (Tmp × Pred)} {a0 a : Act} {w : World} {G G' : Prop} (k : G → G') : ∀ (xs : List Tmp), a0n fs a0 a w xs G → a0n fs a0 a w xs G'
 | [], h => k h
 | _ :: xs, h => fun hs => a0u k xs (h hs)
theorem a9f (I : Pred) (hg : a0V fs g) (hm : ∀ v w w', I v w → R w w' → I v w')
 (h : ∀ (a : Act) (w : World), R w0 w → a0n fs a0 a w (a1h o) (o.wp P a w (fun a' w' => ∃ v, a' = a.put (some d) v ∧ R w w' ∧ I v w') Q))
 (hr : wpM P Q R a0 w0 rest ((d, I) :: fs)) : wpM P Q R a0 w0 (⟨d, o, g⟩ :: rest) fs := by
 refine ⟨I, ⟨hm, fun a w hR => a1O _ _ (a0u (fun k => ?_) _ (h a w hR))⟩, hr⟩
 cases g with
 | none => exact (if_pos (c := a0E none a = true) rfl).mpr k
 | some eb =>
 obtain ⟨e, b⟩ := eb
 show a1Z fs a0 a w e → _;intro hs;unfold a1Z at hs;rw [show fs.find? (fun f => f.1 == e) = _ from hg] at hs
 have hs : a.tmps.getD e undef = .bool b := hs;refine (if_pos (c := a0E (some (e, b)) a = true) ?_).mpr k;simp only [a0E, hs, beq_self_eq_true]
theorem b3b (hg : a0V fs g) (hrf : ∀ w, R w w) (hd : o.dst = some d)
 (hX : ∃ X : Value, (∀ (a : Act) (w : World), R w0 w → a0n fs a0 a w (a1h o) ((execOp a.eval o).run P w = .ok (.value X) w)) ∧
  wpM P Q R a0 w0 rest ((d, fun v _ => v = X) :: fs)) : wpM P Q R a0 w0 (⟨d, o, g⟩ :: rest) fs := by
 obtain ⟨X, h, hr⟩ := hX;refine a9f _ hg (fun v w w' h _ => h) (fun a w hR => a0u (fun k => ?_) _ (h a w hR)) hr
 simp only [Oper.wp, k, Oper.upon, hd];exact ⟨X, rfl, hrf w, rfl⟩
theorem a9g {t : Tmp} (hg : a0V fs g) (hrf : ∀ w, R w w) (ho : o.op = .move (.tmp t)) (hd : o.dst = some d) (hf : (fs.find? (fun f => f.1 == t)) = none)
 (hX : ∃ X : Value, a0.tmps.getD t undef = X ∧ wpM P Q R a0 w0 rest ((d, fun v _ => v = X) :: fs)) : wpM P Q R a0 w0 (⟨d, o, g⟩ :: rest) fs := by
 obtain ⟨X, hX, hr⟩ := hX;refine a9f _ hg (fun _ _ _ h _ => h) (fun a w _ => ?_) hr
 simp only [a1h, ho, Op.operands]
 show a1Z fs a0 a w t → _;intro hs;unfold a1Z at hs;rw [hf] at hs;have hs : a.tmps.getD t undef = a0.tmps.getD t undef := hs
 show Oper.wp P o a w _ Q;simp only [Oper.wp, execOp, ho];exact ⟨a.tmps.getD t undef, by rw [hd]; rfl, hrf w, hs.trans hX⟩
end
def wpX (P : Program) (Q : Exit → Act → World → Prop) (R : World → World → Prop) (a0 : Act) (w0 : World) (l : List Planned) (fs : List (Tmp × Pred)) : Prop := wpM P Q R a0 w0 l fs
section
variable {P : Program} {Q : Exit → Act → World → Prop} {R : World → World → Prop} {a0 : Act} {w0 : World} {rest : List Planned} {fs : List (Tmp × Pred)} {d : Tmp} {o : Oper} {e : Tmp} {b : Bool}
theorem a5s (h : ∀ w, R w0 w → a1K (fun a => Q .normal a w) w fs.reverse a0) : wpX P Q R a0 w0 [] fs := h
theorem a2B (hrf : ∀ w, R w w) (hd : o.dst = some d)
 (hX : ∃ X : Value, (∀ (a : Act) (w : World), R w0 w → a0n fs a0 a w (a1h o) ((execOp a.eval o).run P w = .ok (.value X) w)) ∧
  wpX P Q R a0 w0 rest ((d, fun v _ => v = X) :: fs)) : wpX P Q R a0 w0 (⟨d, o, none⟩ :: rest) fs := b3b a3T hrf hd hX
theorem a8i {t : Tmp} (hrf : ∀ w, R w w) (ho : o.op = .move (.tmp t)) (hd : o.dst = some d) (hf : (fs.find? (fun f => f.1 == t)) = none)
 (hX : ∃ X : Value, a0.tmps.getD t undef = X ∧ wpX P Q R a0 w0 rest ((d, fun v _ => v = X) :: fs)) : wpX P Q R a0 w0 (⟨d, o, none⟩ :: rest) fs := a9g a3T hrf ho hd hf hX
theorem a1P {ops : Array Oper} {id : Nat} {a : Act} {w : World} {ps : List Planned} (hm : P.follows .mixedOrders = true)
 (hplan : a1p ops ops.toList = some ps) {n : Nat} (hn : a.tmps.size = n) (hok : a19 n ps = true)
 (h : wpX P Q Ext a w ps []) : (Code.region id ops true).wp P Q a w :=
 a4F Ext hm hplan hn hok (fun _ _ _ h k => h.trans k) Ext.refl (Ext.refl _).drew h
end
attribute [irreducible] a0V wpX
end Go.Ox
namespace Go.Ox
open Go.RowKit
section
variable {P : Program} {t e : TypeId} {z : Value} {size bytes : Nat}
end
theorem a5t {w w' : World} {b E s n : Nat} {v : Value} {xs : List Value} {row : Option Nat} (h : w.ownsRow b E s v n xs) (hg : w.grownBy w' row) (hv : ∀ k, v.ownBlock = some k → row ≠ some k) : w'.ownsRow b E s v n xs :=
 h.kept hg (by
  cases hq : v.ownBlock with
  | none => simp
  | some k =>
   have := hv k hq;simp
   intro e; exact this e.symm)
section
variable {P : Program} {Q : Exit → Act → World → Prop} {R : World → World → Prop} {a0 : Act} {w0 : World} {rest : List Planned} {fs : List (Tmp × Pred)} {d : Tmp} {o : Oper} {e : Tmp} {b : Bool}
end
end Go.Ox
namespace Go.Ox
open Go.RowKit
theorem ma {G G' : Prop} (k : G') (h : G' → G := by
 intro k
 repeat (first
  | ((first | (refine a8i (by first | exact Ext.refl | exact (ExtC.refl _)) rfl rfl rfl ?_) | (refine wpM_move01 (by first | exact Ext.refl | exact (ExtC.refl _)) rfl rfl rfl rfl ?_)); apply Exists.intro; refine ⟨?_, ?_⟩; · (go_simp; rfl))
  | (first | (refine wpM_movek0 (by first | exact Ext.refl | exact (ExtC.refl _)) rfl rfl rfl ?_) | (refine wpM_movek1 (by first | exact Ext.refl | exact (ExtC.refl _)) rfl rfl rfl rfl ?_))
  | ((first | (refine a2B (by first | exact Ext.refl | exact (ExtC.refl _)) rfl ?_) | (refine wpM_val1 (by first | exact Ext.refl | exact (ExtC.refl _)) rfl rfl ?_)); apply Exists.intro; refine ⟨?_, ?_⟩; · (intro a w' hR; (try (intro h1; try have e1 : _ = _ := h1)); (try (intro h2; try have e2 : _ = _ := h2)); (try (intro h3; try have e3 : _ = _ := h3)); (try (intro h4; try have e4 : _ = _ := h4)); go_simp; rfl))
  | (refine wpM_skip1 rfl ?_)
  | (refine wpM_skipU rfl ?_))
 exact k) : G := h k
def Tag (X : Value) (p : Prop) : Prop := p
section
variable {P : Program} {Q : Exit → Act → World → Prop} {R : World → World → Prop} {a0 : Act} {w0 : World} {rest : List Planned} {fs : List (Tmp × Pred)} {d e : Tmp} {o : Oper} {b : Bool}
end
theorem ml5 {F0 F1 F2 F3 F4 G G' : Prop} (f0 : F0) (f1 : F1) (f2 : F2) (f3 : F3) (f4 : F4) (k : G') (h : F0 → F1 → F2 → F3 → F4 → G' → G := by
 intro f0 f1 f2 f3 f4 k
 first | (refine a2B (by first | exact Ext.refl | exact (ExtC.refl _)) rfl ?_) | (refine wpM_val1 (by first | exact Ext.refl | exact (ExtC.refl _)) rfl rfl ?_)
 apply Exists.intro;refine ⟨?_, ?_⟩
 · intro a w' hR
   (try (intro h1; try have e1 : _ = _ := h1)); (try (intro h2; try have e2 : _ = _ := h2)); (try (intro h3; try have e3 : _ = _ := h3)); (try (intro h4; try have e4 : _ = _ := h4))
   have hl0 := hR.cell f0;have hl1 := hR.cell f1;have hl2 := hR.cell f2;have hl3 := hR.cell f3;have hl4 := hR.cell f4;go_simp;rfl
 exact k) : G := h f0 f1 f2 f3 f4 k
end Go.Ox
