/-
  Drawn regions: a further fact on the frame, kept by each operation (two allocs in no order make two blocks).
-/
import Derived.Test.YtbcbhcohfbkijaaTail
namespace Go.Ox
open Go.RowKit

section
variable {P : Program} {ops : Array Oper} {Q : Exit → Act → World → Prop} {R : World → World → Prop} {a0 : Act} {w0 : World} {J : Act → World → Prop}

/-- the exits, with a further fact where it ends well -/
def andJ (J : Act → World → Prop) (Q : Exit → Act → World → Prop) : Exit → Act → World → Prop
  | .normal, a, w => J a w → Q .normal a w
  | e, a, w => Q e a w
theorem wp_exitsJ {o : Oper} {a : Act} {w : World} {K : Act → World → Prop} (h : o.wp P a w K (andJ J Q)) : o.wp P a w K Q := by
  unfold Oper.wp at *
  generalize (execOp a.eval o).run P w = r at *
  cases r with
  | ok m w' =>
    cases m <;> simp only [Oper.upon] at h ⊢ <;>
      first
        | exact h
        | exact Calls.mono h (fun e w'' he => by cases e <;> exact he)
  | halt x w' => cases x <;> simp only [Oper.upon] at h ⊢ <;> exact h

theorem finV_J : ∀ (l : List (Tmp × Pred)) (a : Act) (w : World), FinV (fun a => andJ J Q .normal a w) w l a → FinV (fun a => J a w → Q .normal a w) w l a
  | [], _, _, h => h
  | _ :: l, _, w, h => fun v hv => finV_J l _ w (h v hv)

theorem wpAny_of_monoJ {ps : List Planned} {Is : List Pred} (hl : Is.length = ps.length) (hplan : planOf ops ops.toList = some ps) (hok : planOk a0.tmps.size ps = true)
    (htr : ∀ a b c, R a b → R b c → R a c) (hrf : ∀ a, R a a)
    (ho : ∀ (j : Nat) (p : Planned) (I : Pred), ps[j]? = some p → Is[j]? = some I → Owes P (andJ J Q) R a0 w0 (factsAt ps Is j) p I)
    (hf : ∀ w, R w0 w → FinV (fun a => andJ J Q .normal a w) w ((ps.map (·.d)).zip Is) a0)
    (hJ : ∀ (j : Nat) (p : Planned), ps[j]? = some p → ∀ (a : Act) (w : World) (I : Pred), a.tmps.size = a0.tmps.size → J a w → p.o.wp P a w (fun a' w' => ∃ v, a' = a.put (some p.d) v ∧ R w w' ∧ I v w') Q →
      p.o.wp P a w (fun a' w' => ∃ v, a' = a.put (some p.d) v ∧ R w w' ∧ I v w' ∧ J a' w') Q)
    (hJ0 : ∀ (j : Nat) (p : Planned), ps[j]? = some p → ∀ (a : Act) (w : World), a.tmps.size = a0.tmps.size → J a w → J (a.put (some p.d) undef) w) :
    ∀ (fuel : Nat) (listed : Array Bool) (a : Act) (w : World), Inv R ps Is a0 w0 listed a w → J a w → unlisted listed = fuel → wpAny P .any ops Q fuel listed a w := by
  obtain ⟨hlen, hspec⟩ := planOf_spec _ _ hplan
  have hn : ops.size = ps.length := by simp [hlen]
  have hp : ∀ (j : Nat) (p : Planned), ps[j]? = some p → ops[j]? = some p.o := fun j p h => by simpa using (hspec j p h).1
  have hmono : ∀ (j : Nat) (I : Pred), Is[j]? = some I → ∀ v w w', I v w → R w w' → I v w' := fun j I hI => by
    have hjl : j < Is.length := by
      rcases Nat.lt_or_ge j Is.length with h | h
      · exact h
      · rw [List.getElem?_eq_none h] at hI; cases hI
    exact (ho j (ps[j]'(by omega)) I (List.getElem?_eq_getElem (by omega)) hI).1
  have hend : ∀ (listed : Array Bool) (a : Act) (w : World), Inv R ps Is a0 w0 listed a w → J a w → (∀ j, j < ps.length → listed.getD j false = true) → Q .normal a w := fun listed a w hinv hj hall =>
    inv_end (G := fun a => J a w → Q .normal a w) hl hok hinv hall (finV_J _ _ _ (hf w hinv.world)) hj
  intro fuel
  induction fuel with
  | zero =>
    intro listed a w hinv hj hu
    have hall : ∀ j, j < ps.length → listed.getD j false = true := fun j hj => unlisted_zero hu (by rw [hinv.size]; exact hj)
    refine ⟨?_, hend _ _ _ hinv hj hall⟩
    rw [List.eq_nil_iff_forall_not_mem]
    intro j hj
    obtain ⟨h0, o, hoj, _⟩ := mem_ready.1 hj
    have hjl : j < ps.length := by
      rw [← hn]
      rcases Nat.lt_or_ge j ops.size with h | h
      · exact h
      · rw [Array.getElem?_eq_none h] at hoj; cases hoj
    rw [getD_true_iff (by rw [hinv.size]; exact hjl), hall j hjl] at h0
    cases h0
  | succ fuel ih =>
    intro listed a w hinv hjj hu
    refine ⟨fun hr => ?_, fun j hj => ?_⟩
    · have hall := all_listed hp (fun j p h => (planOk_spec hok h).2.1) hinv.size hr
      exact hend _ _ _ hinv hjj hall
    · obtain ⟨h0, o, hoj, hall⟩ := mem_ready.1 hj
      have hjl : j < ps.length := by
        rw [← hn]
        rcases Nat.lt_or_ge j ops.size with h | h
        · exact h
        · rw [Array.getElem?_eq_none h] at hoj; cases hoj
      have hpj : ps[j]? = some ps[j] := List.getElem?_eq_getElem hjl
      have hIj : Is[j]? = some (Is[j]'(by omega)) := List.getElem?_eq_getElem (by omega)
      have hoj' := hp j _ hpj
      rw [hoj] at hoj'; injection hoj' with hoj'; subst hoj'
      obtain ⟨_, hdst, hg⟩ := hspec j _ hpj
      have hob := (ho j _ _ hpj hIj).2 a w hinv.world
      have hob := hob.use (slotF_of_inv hl hok hinv hpj h0 hall)
      unfold wpOp
      rw [hoj]
      show if Region.wanted ps[j].o (yielded ops a.tmps) = true then _ else _
      rw [wanted_planned hg a]
      have hus := unlisted_set h0
      split
      · rename_i hw
        rw [if_pos hw] at hob
        refine .inl (Oper.wp_mono (fun a' w' hk => ?_) (hJ j _ hpj a w _ hinv.tsize hjj (wp_exitsJ hob)))
        obtain ⟨v, rfl, hR, hv, hJ'⟩ := hk
        exact ih _ _ _ (inv_step hok htr hmono hinv hpj hIj h0 hall hR hv) hJ' (by omega)
      · rename_i hw
        rw [if_neg hw] at hob
        rw [hdst]
        exact ih _ _ _ (inv_step hok htr hmono hinv hpj hIj h0 hall (hrf w) hob) (hJ0 j _ hpj a w hinv.tsize hjj) (by omega)

unseal wpX in
theorem wpX_open {R : World → World → Prop} {l : List Planned} {fs : List (Tmp × Pred)} (h : wpX P Q R a0 w0 l fs) : wpM P Q R a0 w0 l fs := h
/-- two slots hold two blocks, where they hold any -/
def Two (d e : Tmp) (a : Act) (w : World) : Prop :=
  (∀ n, a.tmps.getD d undef = .pointer (some ⟨n, 0, none⟩) → n < w.heap.size) ∧ (∀ n, a.tmps.getD e undef = .pointer (some ⟨n, 0, none⟩) → n < w.heap.size) ∧
  ∀ n m, a.tmps.getD d undef = .pointer (some ⟨n, 0, none⟩) → a.tmps.getD e undef = .pointer (some ⟨m, 0, none⟩) → n ≠ m
theorem Two.other {d e x : Tmp} {a : Act} {w w' : World} {v : Value} (h : Two d e a w) (hd : x ≠ d) (he : x ≠ e) (hs : w.heap.size ≤ w'.heap.size) : Two d e (a.put (some x) v) w' := by
  unfold Two
  rw [getD_put_ne _ _ _ _ hd, getD_put_ne _ _ _ _ he]
  exact ⟨fun n hn => Nat.lt_of_lt_of_le (h.1 n hn) hs, fun n hn => Nat.lt_of_lt_of_le (h.2.1 n hn) hs, h.2.2⟩
theorem ptr_inj {n m : Nat} (h : Value.pointer (some ⟨n, 0, none⟩) = .pointer (some ⟨m, 0, none⟩)) : n = m := by
  injection h with h; injection h with h; injection h
theorem Two.fst {d e : Tmp} {a : Act} {w w' : World} (h : Two d e a w) (hde : d ≠ e) (hd : d < a.tmps.size) (hs : w.heap.size < w'.heap.size) : Two d e (a.put (some d) (.pointer (some ⟨w.heap.size, 0, none⟩))) w' := by
  unfold Two
  rw [getD_put_same _ _ _ hd, getD_put_ne _ _ _ _ hde]
  refine ⟨fun n hn => by have := ptr_inj hn; omega, fun n hn => Nat.lt_trans (h.2.1 n hn) hs, fun n m hn hm => ?_⟩
  have h1 := ptr_inj hn
  have h2 := h.2.1 m hm
  omega
theorem Two.snd {d e : Tmp} {a : Act} {w w' : World} (h : Two d e a w) (hde : d ≠ e) (he : e < a.tmps.size) (hs : w.heap.size < w'.heap.size) : Two d e (a.put (some e) (.pointer (some ⟨w.heap.size, 0, none⟩))) w' := by
  unfold Two
  rw [getD_put_same _ _ _ he, getD_put_ne _ _ _ _ (Ne.symm hde)]
  refine ⟨fun n hn => Nat.lt_trans (h.1 n hn) hs, fun n hn => by have := ptr_inj hn; omega, fun n m hn hm => ?_⟩
  have h1 := ptr_inj hm
  have h2 := h.1 n hn
  omega
theorem Two.undefd {d e x : Tmp} {a : Act} {w : World} (h : Two d e a w) : Two d e (a.put (some x) undef) w := by
  have hu : ∀ (t : Tmp) n, (a.put (some x) undef).tmps.getD t undef = .pointer (some ⟨n, 0, none⟩) → a.tmps.getD t undef = .pointer (some ⟨n, 0, none⟩) := by
    intro t n hn
    by_cases hx : x = t
    · subst hx
      exfalso
      rcases Nat.lt_or_ge x a.tmps.size with hl | hl
      · rw [getD_put_same _ _ _ hl] at hn; simp [undef] at hn
      · simp [Act.put, Array.getD, Nat.not_lt.2 hl, undef] at hn
    · rwa [getD_put_ne _ _ _ _ hx] at hn
  exact ⟨fun n hn => h.1 n (hu _ _ hn), fun n hn => h.2.1 n (hu _ _ hn), fun n m hn hm => h.2.2 n m (hu _ _ hn) (hu _ _ hm)⟩

def allocsAt (T : TypeId) (d e : Tmp) (ps : List Planned) : Bool := ps.all fun p => (p.d != d && p.d != e) || (match p.o.op with | .alloc t => t == T | _ => false)

/-- **A DRAWN HEAD WITH TWO ALLOCS, A FORCED TAIL**: the two blocks are not one. -/
theorem wp_region_two {id : Nat} {a : Act} {w : World} {ps : List Planned} (k : Nat) (d e : Tmp) (T : TypeId) (obj : Obj) (hm : P.follows .mixedOrders = true)
    (hn0 : decide (k < ops.size) = true) (hs : Region.sinkB .any ops k = true) (hc : Region.chainB .any ops k = true) (hg : guardsIn ops k = true) (hb : edgesBack ops k = true)
    (hq : Region.seqB .any ops (ops.size - k) k (Array.replicate k true ++ Array.replicate (ops.size - k) false) = true)
    (hplan : planOf (ops.extract 0 k) (ops.extract 0 k).toList = some ps) {n : Nat} (hn : a.tmps.size = n) (hok : planOk n ps = true)
    (hal : allocsAt T d e ps = true) (hde : decide (d ≠ e) = true)
    (hT : ∀ (o : Oper), o.op = .alloc T → ∀ (a : Act) (w : World), (execOp a.eval o).run P w = .ok (.value (.pointer (some ⟨w.heap.size, 0, none⟩))) (w.alloc obj))
    (hJ : Two d e a w.drew)
    (h : wpX P (andJ (Two d e) (thenTail P ops k Q)) Ext a w ps []) : (Code.region id ops true).wp P Q a w := by
  subst hn
  refine wp_region_any hm ?_
  have hk : k < ops.size := of_decide_eq_true hn0
  have hde := of_decide_eq_true hde
  obtain ⟨Is, hl, ho, hf⟩ := wpM_parts _ _ (wpX_open h)
  have hlen : (ops.extract 0 k).size = ps.length := by simpa using ((planOf_spec _ _ hplan).1).symm
  have hdst : ∀ (j : Nat) (p : Planned), ps[j]? = some p → p.o.dst = some p.d := fun j p hp => ((planOf_spec _ _ hplan).2 j p hp).2.1
  have h1 := wpAny_of_monoJ (J := Two d e) (Q := thenTail P ops k Q) (ops := ops.extract 0 k) (w0 := w) hl hplan hok (fun _ _ _ h k => h.trans k) Ext.refl (fun j p I hp hI => by simpa using ho j p I hp hI) (fun w' hw' => by simpa using hf w' hw')
    (fun j p hp a' w' I hsz hj hh => by
      have hin : p ∈ ps := List.mem_of_getElem? hp
      have hal' := List.all_eq_true.1 hal p hin
      by_cases hpd : p.d = d ∨ p.d = e
      · have hop : p.o.op = .alloc T := by
          have : (p.d != d && p.d != e) = false := by rcases hpd with h | h <;> simp [h]
          rw [this, Bool.false_or] at hal'
          split at hal'
          · rename_i t ht; rw [ht]; simp at hal'; rw [hal']
          · cases hal'
        have hr := hT p.o hop a' w'
        unfold Oper.wp at hh ⊢
        rw [hr] at hh ⊢
        simp only [Oper.upon, hdst j p hp] at hh ⊢
        obtain ⟨v, hv, hR, hI⟩ := hh
        have hpl : p.d < a'.tmps.size := by rw [hsz]; exact (planOk_spec hok hp).1
        have hvp : v = .pointer (some ⟨w'.heap.size, 0, none⟩) := by
          have h2 := congrArg (fun x : Act => x.tmps.getD p.d undef) hv
          simp only [getD_put_same _ _ _ hpl] at h2
          exact h2.symm
        refine ⟨v, hv, hR, hI, ?_⟩
        rcases hpd with h | h
        · rw [h] at hpl ⊢
          exact hj.fst hde hpl (by simp)
        · rw [h] at hpl ⊢
          exact hj.snd hde hpl (by simp)
      · refine Oper.wp_mono (fun a2 w2 hk2 => ?_) hh
        obtain ⟨v, rfl, hR, hI⟩ := hk2
        exact ⟨v, rfl, hR, hI, hj.other (fun h => hpd (.inl h)) (fun h => hpd (.inr h)) hR.size⟩)
    (fun j p hp a' w' hsz hj => hj.undefd) k (Array.replicate k false) a w.drew ?_ hJ (by simp [unlisted, List.countP_replicate])
  · have inv0 : HeadInv .any ops k (Array.replicate ops.size false) :=
      ⟨by simp, fun j oj _ hl => (by rw [getD_replicate_false] at hl; cases hl), fun t _ ht => getD_in (by simpa using ht) (getD_replicate_false _ _)⟩
    have h2 := wpAny_tail hk hs hc hg hb hq k (Array.replicate k false) (Array.replicate ops.size false) a w.drew inv0 (by simp) (fun j hj => by
      rw [getD_in (by simp; omega) (getD_replicate_false _ _), getD_in (by simpa using hj) (getD_replicate_false _ _)]) (by simp [unlisted, List.countP_replicate]) h1
    rw [show k + (ops.size - k) = ops.size by omega] at h2
    exact h2
  · have hkl : k = ps.length := by rw [← hlen]; exact (head_size hk).symm
    refine ⟨by simp [hkl], (Ext.refl _).drew, rfl, rfl, ?_, ?_, fun t _ => rfl⟩
    · intro j p hp hj
      have hjl : j < k := by
        rw [hkl]
        rcases Nat.lt_or_ge j ps.length with h | h
        · exact h
        · rw [List.getElem?_eq_none h] at hp; cases hp
      simp [Array.getD, hjl] at hj
    · intro j p I hp hI hj
      have hjl : j < k := by
        rw [hkl]
        rcases Nat.lt_or_ge j ps.length with h | h
        · exact h
        · rw [List.getElem?_eq_none h] at hp; cases hp
      simp [Array.getD, hjl] at hj
end
end Go.Ox
