/-
  A region that draws its order and ends with operations in one forced order (stores, mostly): its head in any order, by the theorems on drawn regions; its tail as a list.
-/
import Derived.Test.YtngdlahgihbmhaaEff
import Derived.StillTail
namespace Go.Ox
open Go.RowKit

section
variable {P : Program} {ops : Array Oper} {Q : Exit → Act → World → Prop}

/-- behind the head, the tail -/
def thenTail (P : Program) (ops : Array Oper) (n : Nat) (Q : Exit → Act → World → Prop) : Exit → Act → World → Prop
  | .normal, a, w => wpList P ops Q (ops.toList.drop n) a w
  | e, a, w => Q e a w
theorem thenTail_outs {n : Nat} (h : LetsOut (thenTail P ops n Q)) : LetsOut Q := h

theorem wp_exits {o : Oper} {a : Act} {w : World} {K : Act → World → Prop} {n : Nat} (h : o.wp P a w K (thenTail P ops n Q)) : o.wp P a w K Q := by
  unfold Oper.wp at *
  generalize (execOp a.eval o).run P w = r at *
  cases r with
  | ok m w' =>
    cases m <;> simp only [Oper.upon] at h ⊢ <;>
      first
        | exact h
        | exact Calls.mono h (fun e w'' he => by cases e <;> exact he)
  | halt x w' => cases x <;> simp only [Oper.upon] at h ⊢ <;> exact h

def guardsIn (ops : Array Oper) (n : Nat) : Bool := (List.range n).all fun j => match (ops[j]?).bind (·.guard) with | none => true | some (k, _) => decide (k < n)
def edgesBack (ops : Array Oper) (n : Nat) : Bool := (List.range n).all fun j => match ops[j]? with | none => true | some o => o.after.all fun e => !Region.binds .any e || decide (e.on < j)
theorem edgesBack_at {n j : Nat} {o : Oper} (h : edgesBack ops n = true) (hj : j < n) (ho : ops[j]? = some o) : ∀ e ∈ o.after, Region.binds .any e = true → e.on < j := by
  have h1 := List.all_eq_true.1 h j (List.mem_range.2 hj)
  simp only [ho] at h1
  intro e he hb
  have h2 := Array.all_eq_true_iff_forall_mem.1 h1 e he
  simpa [hb] using h2
theorem head_at {n j : Nat} (hn : n < ops.size) (hj : j < n) : (ops.extract 0 n)[j]? = ops[j]? := by
  rw [Array.getElem?_extract]
  simp only [Nat.zero_add]
  rw [if_pos (by omega)]
theorem head_size {n : Nat} (hn : n < ops.size) : (ops.extract 0 n).size = n := by simp; omega
theorem yielded_head {n k : Nat} (hn : n < ops.size) (hk : k < n) (ts : Array Value) : yielded (ops.extract 0 n) ts k = yielded ops ts k := by
  unfold yielded
  rw [head_at hn hk]
theorem wanted_head {n j : Nat} {o : Oper} (hn : n < ops.size) (hg : guardsIn ops n = true) (hj : j < n) (ho : ops[j]? = some o) (ts : Array Value) :
    Region.wanted o (yielded (ops.extract 0 n) ts) = Region.wanted o (yielded ops ts) := by
  have h1 := List.all_eq_true.1 hg j (List.mem_range.2 hj)
  simp only [ho, Option.bind_some] at h1
  unfold Region.wanted
  cases hgd : o.guard with
  | none => rfl
  | some kb =>
    obtain ⟨k, b⟩ := kb
    rw [hgd] at h1
    have hk : k < n := by simpa using h1
    simp only [yielded_head hn hk]

theorem unlisted_pos {listed : Array Bool} {f : Nat} (h : unlisted listed = f + 1) : ∃ j, j < listed.size ∧ listed.getD j true = false := by
  apply Classical.byContradiction
  intro hno
  have h0 : unlisted listed = 0 := by
    unfold unlisted
    rw [List.countP_eq_zero]
    intro b hb
    obtain ⟨j, hj, rfl⟩ := List.getElem_of_mem hb
    have hj' : j < listed.size := by simpa using hj
    cases hl : listed.getD j true with
    | false => exact absurd ⟨j, hj', hl⟩ hno
    | true =>
      have : listed[j] = true := by simpa [Array.getD, hj'] using hl
      simp [this]
  omega

theorem wpAny_tail {n : Nat} (hn : n < ops.size) (hs : Region.sinkB .any ops n = true) (hc : Region.chainB .any ops n = true) (hg : guardsIn ops n = true) (hb : edgesBack ops n = true)
    (hq : Region.seqB .any ops (ops.size - n) n (Array.replicate n true ++ Array.replicate (ops.size - n) false) = true) :
    ∀ (f : Nat) (listedH listed : Array Bool) (a : Act) (w : World), HeadInv .any ops n listed → listedH.size = n → (∀ j, j < n → listed.getD j true = listedH.getD j true) → unlisted listedH = f →
      wpAny P .any (ops.extract 0 n) (thenTail P ops n Q) f listedH a w → wpAny P .any ops Q (f + (ops.size - n)) listed a w := by
  intro f
  induction f with
  | zero =>
    intro listedH listed a w inv hsz hag hu h
    have hl : listed = Array.replicate n true ++ Array.replicate (ops.size - n) false := by
      apply Array.ext
      · rw [inv.size]; simp; omega
      · intro j h1 h2
        rcases Nat.lt_or_ge j n with hj | hj
        · have h3 := unlisted_zero hu (j := j) (by omega)
          have h4 := hag j hj
          rw [getD_true_iff (by omega : j < listedH.size), h3] at h4
          have h5 : listed[j] = true := by simpa [Array.getD, h1] using h4
          rw [h5, Array.getElem_append_left (by simpa using hj)]
          simp
        · have h4 := inv.tail j hj (by rw [← inv.size]; exact h1)
          have h5 : listed[j] = false := by simpa [Array.getD, h1] using h4
          rw [h5, Array.getElem_append_right (by simpa using hj)]
          simp
    have hd : (ops.toList.drop n).length = ops.size - n := by simp
    have h9 := wpAny_of_seq (P := P) (md := .any) (Q' := Q) (ops := ops) (ops.toList.drop n) n listed a w (fun j => by simp [List.getElem?_drop]) (by rw [hd, hl]; exact hq) h.2
    rw [hd] at h9
    rw [Nat.zero_add]
    exact h9
  | succ f ih =>
    intro listedH listed a w inv hsz hag hu h
    obtain ⟨j0, hj0, hun⟩ := unlisted_pos hu
    have hj0n : j0 < n := by omega
    have hls := inv.size
    have hag2 : ∀ j, j < n → listed.getD j false = listedH.getD j false := fun j hj => by
      have := hag j hj
      rwa [getD_true_iff (by omega), getD_true_iff (by omega)] at this
    have hready : ∀ j, j < n → j ∈ Region.ready .any ops listed → j ∈ Region.ready .any (ops.extract 0 n) listedH := fun j hj hr => by
      obtain ⟨h1, o, ho, h2⟩ := mem_ready.1 hr
      refine mem_ready.2 ⟨by rw [← hag j hj]; exact h1, o, by rw [head_at hn hj]; exact ho, fun e he hbe => ?_⟩
      have := edgesBack_at hb hj ho e he hbe
      rw [← hag2 _ (by omega)]
      exact h2 e he hbe
    rw [show f + 1 + (ops.size - n) = (f + (ops.size - n)) + 1 by omega]
    refine ⟨fun h0 => ?_, fun i hi => ?_⟩
    · exfalso
      have hall : ∀ j, j < n → listed.getD j false = true := by
        intro j
        induction j using Nat.strongRecOn with
        | ind j ihj =>
          intro hj
          cases hl : listed.getD j true with
          | true => rwa [getD_true_iff (by omega)] at hl
          | false =>
            exfalso
            have ho : ops[j]? = some (ops[j]'(by omega)) := Array.getElem?_eq_getElem (by omega)
            have : j ∈ Region.ready .any ops listed := mem_ready.2 ⟨hl, _, ho, fun e he hbe => by
              have := edgesBack_at hb hj ho e he hbe
              exact ihj e.on this (by omega)⟩
            rw [h0] at this
            cases this
      have h1 := hall j0 hj0n
      rw [← hag j0 hj0n, getD_true_iff (by omega), h1] at hun
      cases hun
    · have hin : i < n := by
        rcases Nat.lt_or_ge i n with h1 | h1
        · exact h1
        · exact absurd hi (tail_waits hs hc hn inv _ j0 rfl hj0n (by rw [hag j0 hj0n]; exact hun) i h1)
      have hiH := hready i hin hi
      obtain ⟨hiu, o, ho, _⟩ := mem_ready.1 hi
      have hk := h.2 i hiH
      unfold wpOp at hk ⊢
      rw [head_at hn hin] at hk
      simp only [ho] at hk ⊢
      rw [wanted_head hn hg hin ho] at hk
      have hstep : ∀ (a' : Act) (w' : World), wpAny P .any (ops.extract 0 n) (thenTail P ops n Q) f (listedH.setIfInBounds i true) a' w' → wpAny P .any ops Q (f + (ops.size - n)) (listed.setIfInBounds i true) a' w' := fun a' w' h' => by
        refine ih _ _ a' w' (inv.set hi hin) (by simpa using hsz) (fun j hj => ?_) ?_ h'
        · by_cases hij : i = j
          · subst hij
            rw [getD_true_iff (by simp; omega), getD_true_iff (by simp; omega)]
            simp [Array.getD, hls, hsz, hin, show i < ops.size by omega]
          · rw [getD_set_ne true hij, getD_set_ne true hij]
            exact hag j hj
        · have := unlisted_set (listed := listedH) (j := i) (by rw [← hag i hin]; exact hiu)
          omega
      split
      · rename_i hw
        rw [if_pos hw] at hk
        exact hk.imp (fun h1 => Oper.wp_mono hstep (wp_exits h1)) (fun h1 => ⟨h1.1, thenTail_outs h1.2⟩)
      · rename_i hw
        rw [if_neg hw] at hk
        exact hstep _ _ hk

end
section
variable {P : Program} {ops : Array Oper} {Q : Exit → Act → World → Prop} {R0 R : World → World → Prop} {a0 : Act} {w0 : World}
unseal wpY in
theorem wpY_open {eff anc : List Tmp} {S : World → Prop} {l : List Planned} {fs : List (Tmp × Pred)} (h : wpY P Q R0 R a0 w0 eff anc S l fs) : wpE P Q R0 R a0 w0 eff anc S l fs := h
/-- the same as wp_region_eff, a step earlier -/
theorem wpAny_region_eff {a : Act} {w : World} {ps : List Planned} (eff anc : List Tmp) (R0 R : World → World → Prop) (S : World → Prop) 
    (hplan : planOf ops ops.toList = some ps) {n : Nat} (hn : a.tmps.size = n) (hok : planOk n ps = true) (hch : chained (masks ps []) (effIx eff ps 0) = true) (han : anchored (masks ps []) (effIx eff ps 0) (ancIx eff anc ps 0 0) = true)
    (htr : ∀ a b c, R a b → R b c → R a c) (hrf : ∀ a, R a a) (h0R : ∀ a b, R0 a b → R a b) (hdr : R0 w w.drew) (hS0 : ∀ w w', S w → R0 w w' → S w') (hS : S w)
    (h : wpE P Q R0 R a w eff anc S ps []) : wpAny P .any ops Q ops.size (Array.replicate ops.size false) a w.drew := by
  subst hn
  obtain ⟨Is, Ss, h1, h2, h3, h4, h5, h5a, h6, T, h7, h8⟩ := wpE_parts _ _ _ hS0 h
  have hlen : ops.size = ps.length := by simpa using ((planOf_spec _ _ hplan).1).symm
  refine wpAny_of_eff (eff := eff) (anc := anc) h1 hplan hok hch han htr hrf h0R h4 h2 (fun j p I hp hI he ha => by simpa using h5 j p I hp hI he ha) (fun j p I hp hI he ha => by simpa using h5a j p I hp hI he ha) (fun j p I hp hI he => by simpa using h6 j p I hp hI he) (effIx_spec eff ps) ⟨T, h7, fun w' hw' hT => by simpa using h8 w' hw' hT⟩ _ _ _ _ ?_ ?_ ?_
  · refine ⟨by simp [hlen], h0R _ _ hdr, rfl, rfl, ?_, ?_, fun t _ => rfl⟩
    · intro j p hp hj
      have hjl : j < ops.size := by
        rw [hlen]
        rcases Nat.lt_or_ge j ps.length with h | h
        · exact h
        · rw [List.getElem?_eq_none h] at hp; cases hp
      simp [Array.getD, hjl] at hj
    · intro j p I hp hI hj
      have hjl : j < ops.size := by
        rw [hlen]
        rcases Nat.lt_or_ge j ps.length with h | h
        · exact h
        · rw [List.getElem?_eq_none h] at hp; cases hp
      simp [Array.getD, hjl] at hj
  · refine ⟨0, S, h3, hS0 _ _ hS hdr, fun i j _ hi => by omega, fun i j hi _ => ?_⟩
    have hjl : j < ops.size := by
      rw [hlen]
      have : j ∈ effIx eff ps 0 := List.mem_of_getElem? hi
      have hlt : ∀ (l : List Planned) (n : Nat), ∀ x ∈ effIx eff l n, x < n + l.length := by
        intro l
        induction l with
        | nil => intro n x hx; simp [effIx] at hx
        | cons q l ih =>
          intro n x hx
          unfold effIx at hx
          split at hx
          · rcases List.mem_cons.1 hx with rfl | hx
            · simp
            · have := ih _ _ hx; simp; omega
          · have := ih _ _ hx; simp; omega
      simpa using hlt ps 0 j this
    simp [Array.getD, hjl]
  · simp [unlisted, List.countP_replicate, hlen]


/-- **A DRAWN HEAD, A FORCED TAIL** -/
theorem wp_region_tailY {id : Nat} {a : Act} {w : World} {ps : List Planned} (k : Nat) (eff anc : List Tmp) (R0 R : World → World → Prop) (S : World → Prop) (hm : P.follows .mixedOrders = true)
    (hn0 : decide (k < ops.size) = true) (hs : Region.sinkB .any ops k = true) (hc : Region.chainB .any ops k = true) (hg : guardsIn ops k = true) (hb : edgesBack ops k = true)
    (hq : Region.seqB .any ops (ops.size - k) k (Array.replicate k true ++ Array.replicate (ops.size - k) false) = true)
    (hplan : planOf (ops.extract 0 k) (ops.extract 0 k).toList = some ps) {n : Nat} (hn : a.tmps.size = n) (hok : planOk n ps = true) (hch : chained (masks ps []) (effIx eff ps 0) = true) (han : anchored (masks ps []) (effIx eff ps 0) (ancIx eff anc ps 0 0) = true)
    (htr : ∀ a b c, R a b → R b c → R a c) (hrf : ∀ a, R a a) (h0R : ∀ a b, R0 a b → R a b) (hdr : R0 w w.drew) (hS0 : ∀ w w', S w → R0 w w' → S w') (hS : S w)
    (h : wpY P (thenTail P ops k Q) R0 R a w eff anc S ps []) : (Code.region id ops true).wp P Q a w := by
  refine wp_region_any hm ?_
  have hk : k < ops.size := of_decide_eq_true hn0
  have h1 := wpAny_region_eff eff anc R0 R S hplan hn hok hch han htr hrf h0R hdr hS0 hS (wpY_open h)
  rw [head_size hk] at h1
  have inv0 : HeadInv .any ops k (Array.replicate ops.size false) :=
    ⟨by simp, fun j oj _ hl => (by rw [getD_replicate_false] at hl; cases hl), fun t _ ht => getD_in (by simpa using ht) (getD_replicate_false _ _)⟩
  have h2 := wpAny_tail hk hs hc hg hb hq k (Array.replicate k false) (Array.replicate ops.size false) a w.drew inv0 (by simp) (fun j hj => by
    rw [getD_in (by simp; omega) (getD_replicate_false _ _), getD_in (by simpa using hj) (getD_replicate_false _ _)]) (by simp [unlisted, List.countP_replicate]) h1
  rw [show k + (ops.size - k) = ops.size by omega] at h2
  exact h2
end
end Go.Ox
