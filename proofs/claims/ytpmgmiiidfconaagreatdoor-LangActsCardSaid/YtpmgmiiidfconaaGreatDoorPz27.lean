/-
  Tail2, packed: what the claim needs of them.
-/
import Derived.Test.YtpmgmiiidfconaaGreatDoorPz04
set_option linter.unusedVariables false
set_option linter.unusedSimpArgs false
namespace Go.Ox
open Go.RowKit
section
variable {P : Program} {ops : Array Oper} {Q : Exit → Act → World → Prop}
theorem ready_step {n : Nat} {listed listedH : Array Bool} (hn : n < ops.size) (hb : edgesBack ops n = true) (hls : listed.size = ops.size) (hsz : listedH.size = n) (hag : ∀ j, j < n → listed.getD j true = listedH.getD j true) :
    ∀ j, j < n → j ∈ Region.ready .any ops listed → j ∈ Region.ready .any (ops.extract 0 n) listedH := by
  have hag2 : ∀ j, j < n → listed.getD j false = listedH.getD j false := fun j hj => by
    have := hag j hj
    rwa [getD_true_iff (by omega), getD_true_iff (by omega)] at this
  intro j hj hr
  obtain ⟨h1, o, ho, h2⟩ := mem_ready.1 hr
  refine mem_ready.2 ⟨by rw [← hag j hj]; exact h1, o, by rw [head_at hn hj]; exact ho, fun e he hbe => ?_⟩
  have := edgesBack_at hb hj ho e he hbe
  rw [← hag2 _ (by omega)]
  exact h2 e he hbe
theorem agree_set {n i : Nat} {listed listedH : Array Bool} (hls : n < listed.size) (hsz : listedH.size = n) (hin : i < n) (hag : ∀ j, j < n → listed.getD j true = listedH.getD j true) :
    ∀ j, j < n → (listed.setIfInBounds i true).getD j true = (listedH.setIfInBounds i true).getD j true := by
  intro j hj
  by_cases hij : i = j
  · subst hij
    rw [getD_true_iff (by simp; omega), getD_true_iff (by simp; omega)]
    simp [Array.getD, hsz, hin, show i < listed.size by omega]
  · rw [getD_set_ne true hij, getD_set_ne true hij]
    exact hag j hj
theorem never_stuck {n : Nat} {listed : Array Bool} (hn : n < ops.size) (hb : edgesBack ops n = true) (hls : listed.size = ops.size) (h0 : Region.ready .any ops listed = []) : ∀ j, j < n → listed.getD j false = true := by
  intro j
  induction j using Nat.strongRecOn with
  | ind j ihj =>
    intro hj
    cases hl : listed.getD j true with
    | true => rwa [getD_true_iff (by omega)] at hl
    | false =>
      exfalso
      have ho : ops[j]? = some (ops[j]'(by omega)) := Array.getElem?_eq_getElem (by omega)
      have : j ∈ Region.ready .any ops listed := mem_ready.2 ⟨hl, _, ho, fun e he hbe => by
        have := edgesBack_at hb hj ho e he hbe
        exact ihj e.on this (by omega)⟩
      rw [h0] at this
      cases this
/-- as wpAny_tail, what waits being said outright -/
theorem wpAny_tailW {n : Nat} (hn : n < ops.size) (Good : Array Bool → Prop) (hgd : ∀ l i, Good l → Good (l.setIfInBounds i true)) (hw : ∀ listed, HeadInv .any ops n listed → Good listed → ∀ i, i < n → listed.getD i true = false → ∀ t, n ≤ t → t ∉ Region.ready .any ops listed)
    (hg : guardsIn ops n = true) (hb : edgesBack ops n = true)
    (hq : Region.seqB .any ops (ops.size - n) n (Array.replicate n true ++ Array.replicate (ops.size - n) false) = true) :
    ∀ (f : Nat) (listedH listed : Array Bool) (a : Act) (w : World), HeadInv .any ops n listed → Good listed → listedH.size = n → (∀ j, j < n → listed.getD j true = listedH.getD j true) → unlisted listedH = f →
      wpAny P .any (ops.extract 0 n) (thenTail P ops n Q) f listedH a w → wpAny P .any ops Q (f + (ops.size - n)) listed a w := by
  intro f
  induction f with
  | zero =>
    intro listedH listed a w inv hgo hsz hag hu h
    have hl : listed = Array.replicate n true ++ Array.replicate (ops.size - n) false := by
      apply Array.ext
      · rw [inv.size]; simp; omega
      · intro j h1 h2
        rcases Nat.lt_or_ge j n with hj | hj
        · have h3 := unlisted_zero hu (j := j) (by omega)
          have h4 := hag j hj
          rw [getD_true_iff (by omega : j < listedH.size), h3] at h4
          have h5 : listed[j] = true := by simpa [Array.getD, h1] using h4
          rw [h5, Array.getElem_append_left (by simpa using hj)]
          simp
        · have h4 := inv.tail j hj (by rw [← inv.size]; exact h1)
          have h5 : listed[j] = false := by simpa [Array.getD, h1] using h4
          rw [h5, Array.getElem_append_right (by simpa using hj)]
          simp
    have hd : (ops.toList.drop n).length = ops.size - n := by simp
    have h9 := wpAny_of_seq (P := P) (md := .any) (Q' := Q) (ops := ops) (ops.toList.drop n) n listed a w (fun j => by simp [List.getElem?_drop]) (by rw [hd, hl]; exact hq) h.2
    rw [hd] at h9
    rw [Nat.zero_add]
    exact h9
  | succ f ih =>
    intro listedH listed a w inv hgo hsz hag hu h
    obtain ⟨j0, hj0, hun⟩ := unlisted_pos hu
    have hj0n : j0 < n := by omega
    have hls := inv.size
    rw [show f + 1 + (ops.size - n) = (f + (ops.size - n)) + 1 by omega]
    refine ⟨fun h0 => ?_, fun i hi => ?_⟩
    · exfalso
      have h1 := never_stuck hn hb hls h0 j0 hj0n
      rw [← hag j0 hj0n, getD_true_iff (by omega), h1] at hun
      cases hun
    · have hin : i < n := by
        rcases Nat.lt_or_ge i n with h1 | h1
        · exact h1
        · exact absurd hi (hw listed inv hgo j0 hj0n (by rw [hag j0 hj0n]; exact hun) i h1)
      have hiH := ready_step hn hb hls hsz hag i hin hi
      obtain ⟨hiu, o, ho, _⟩ := mem_ready.1 hi
      have hk := h.2 i hiH
      unfold wpOp at hk ⊢
      rw [head_at hn hin] at hk
      simp only [ho] at hk ⊢
      rw [wanted_head hn hg hin ho] at hk
      have hstep : ∀ (a' : Act) (w' : World), wpAny P .any (ops.extract 0 n) (thenTail P ops n Q) f (listedH.setIfInBounds i true) a' w' → wpAny P .any ops Q (f + (ops.size - n)) (listed.setIfInBounds i true) a' w' := fun a' w' h' => by
        refine ih _ _ a' w' (inv.set hi hin) (hgd _ _ hgo) (by simpa using hsz) (agree_set (by omega) hsz hin hag) ?_ h'
        have := unlisted_set (listed := listedH) (j := i) (by rw [← hag i hin]; exact hiu)
        omega
      split
      · rename_i hw
        rw [if_pos hw] at hk
        exact hk.imp (fun h1 => Oper.wp_mono hstep (wp_exits h1)) (fun h1 => ⟨h1.1, thenTail_outs h1.2⟩)
      · rename_i hw
        rw [if_neg hw] at hk
        exact hstep _ _ hk
/-- whatever is ahead of k is waited for on the way to k + 1, not by way of k -/
def sinkL (ops : Array Oper) (k : Nat) : Bool :=
  (List.range k).all fun i => (List.range (k + 2)).any fun j => decide (i < j) && (decide (j ≠ k) && Region.waitsFor .any ops j i)
def chainL (ops : Array Oper) (k : Nat) : Bool :=
  ((List.range ops.size).all fun t => decide (t ≤ k + 1) || Region.waitsFor .any ops t (t - 1)) && (List.range ops.size).all fun t => decide (t ≤ k + 1) || decide (k + 2 < t) || Region.waitsFor .any ops t k
theorem waits_open {j i : Nat} {listed : Array Bool} (h : Region.waitsFor .any ops j i = true) (hu : listed.getD i true = false) (hr : ∀ oj, ops[j]? = some oj → ∀ e ∈ oj.after, Region.binds .any e = true → listed.getD e.on false = true) : False := by
  obtain ⟨oj, hoj, e, he, hb, hon⟩ := Region.waitsFor_spec h
  have h2 := hr oj hoj e he hb
  rw [hon, getD_both hu] at h2
  cases h2
theorem ready_open {t : Nat} {listed : Array Bool} (h : t ∈ Region.ready .any ops listed) : ∀ oj, ops[t]? = some oj → ∀ e ∈ oj.after, Region.binds .any e = true → listed.getD e.on false = true := by
  obtain ⟨_, o, ho, hall⟩ := mem_ready.1 h
  intro oj hoj
  obtain rfl : o = oj := Option.some.inj (ho.symm.trans hoj)
  exact hall
/-- the store waits for all ahead of the pick -/
theorem store_waits {k n : Nat} {listed : Array Bool} (hs : sinkL ops k = true) (inv : HeadInv .any ops n listed) (hr : k + 1 ∈ Region.ready .any ops listed) :
    ∀ (d i : Nat), k + 1 - i = d → i < k → listed.getD i true = true := by
  intro d
  induction d using Nat.strongRecOn with
  | ind d ih =>
    intro i hd hi
    cases hu : listed.getD i true with
    | true => rfl
    | false =>
      exfalso
      obtain ⟨j, hj, hj2⟩ := List.any_eq_true.1 (List.all_eq_true.1 hs i (List.mem_range.2 hi))
      simp only [Bool.and_eq_true, decide_eq_true_eq] at hj2
      have hj3 := List.mem_range.1 hj
      by_cases hjk : j = k + 1
      · subst hjk
        exact waits_open hj2.2.2 hu (ready_open hr)
      · have hlt : j < ops.size := by
          obtain ⟨oj, hoj, _⟩ := Region.waitsFor_spec hj2.2.2
          exact (Array.getElem?_eq_some_iff.1 hoj).1
        have h1 := ih (k + 1 - j) (by omega) j rfl (by have := hj2.2.1; omega)
        refine waits_open hj2.2.2 hu fun oj hoj => inv.closed j oj hoj ?_
        rwa [getD_true_iff (by rw [inv.size]; exact hlt)] at h1
theorem late_waits {k n : Nat} {listed : Array Bool} (hc : chainL ops k = true) (inv : HeadInv .any ops n listed) (hn : n ≤ k + 1) : ∀ t, k + 2 ≤ t → t ∉ Region.ready .any ops listed := by
  intro t ht hr
  obtain ⟨_, o, ho, _⟩ := mem_ready.1 hr
  have hlt := (Array.getElem?_eq_some_iff.1 ho).1
  simp only [chainL, Bool.and_eq_true] at hc
  have h1 := List.all_eq_true.1 hc.1 t (List.mem_range.2 hlt)
  simp only [Bool.or_eq_true, decide_eq_true_eq] at h1
  rcases h1 with h1 | h1
  · omega
  · exact waits_open h1 (inv.tail (t - 1) (by omega) (by omega)) (ready_open hr)
/-- a pick yields the same in every world -/
theorem pick_yields {P : Program} {ops ops' : Array Oper} {Q' : Exit → Act → World → Prop} {k : Nat} {o : Oper} {c x y : Operand} {a : Act} {w : World} {K : Act → World → Prop} (ho' : ops'[k]? = some o) (hop : o.op = .pick c x y) (hg : o.guard = none) (h : wpOp P ops' Q' k K a w) :
    ∃ v, Yields P ops o v a ∧ K (a.put o.dst v) w := by
  have hrun : ∀ w : World, (execOp a.eval o).run P w = match a.eval c with | .bool b => .ok (.value (if b then a.eval x else a.eval y)) w | _ => (execOp a.eval o).run P w := by
    intro w
    split
    · rename_i b hb
      simp only [execOp, hop, hb]
      cases b <;> rfl
    · rfl
  have hw : ∀ ts, Region.wanted o ts = true := by intro ts; unfold Region.wanted; rw [hg]
  unfold wpOp at h
  simp only [ho', hw, if_true] at h
  cases hb : a.eval c with
  | bool b =>
    have h9 : ∀ w : World, (execOp a.eval o).run P w = .ok (.value (if b then a.eval x else a.eval y)) w := fun w => by rw [hrun w]; simp only [hb]
    refine ⟨if b then a.eval x else a.eval y, .inl ⟨hw _, h9⟩, ?_⟩
    rcases h with h | ⟨h, -⟩
    · unfold Oper.wp at h
      rw [h9] at h
      exact h
    · exfalso
      have h1 := h.1
      simp only [execOp, hop, hb] at h1
      cases b <;> exact absurd (show noRoomEvent ∈ #[] from h1) (by simp)
  | _ =>
    exfalso
    rcases h with h | ⟨h, -⟩
    · unfold Oper.wp at h
      simp only [execOp, hop, hb] at h
      exact h
    · have h1 := h.1
      simp only [execOp, hop, hb] at h1
      exact absurd (show noRoomEvent ∈ #[] from h1) (by simp)
/-- **THE PICK UNLISTED** -/
theorem wpAny_late {k : Nat} (hk : k + 1 < ops.size) (hs : sinkL ops k = true) (hc : chainL ops k = true) (hg : guardsIn ops (k + 1) = true) (hb : edgesBack ops (k + 1) = true) (hsel : Region.noSelect ops = true)
    {o : Oper} {c x y : Operand} (hok : ops[k]? = some o) (hop : o.op = .pick c x y) (hgo : o.guard = none) (hQ : ∀ v c a w, Q (.panic c) (a.put o.dst v) w → Q (.panic c) a w)
    (hq : Region.seqB .any ops (ops.size - (k + 1)) (k + 1) (Array.replicate (k + 1) true ++ Array.replicate (ops.size - (k + 1)) false) = true)
    (hr : (Region.ready .any ops (Array.replicate k true ++ (#[false, false] ++ Array.replicate (ops.size - (k + 2)) false))).contains k = true)
    (hf : Region.free .any ops (Array.replicate k true ++ (#[false, false] ++ Array.replicate (ops.size - (k + 2)) false)) k = true) :
    ∀ (f : Nat) (l1 listed : Array Bool) (a : Act) (w : World), HeadInv .any ops (k + 1) listed → listed.getD k true = false → l1.size = k + 1 → (∀ j, j < k + 1 → listed.getD j true = l1.getD j true) → unlisted l1 = f + 1 →
      wpAny P .any (ops.extract 0 (k + 1)) (thenTail P ops (k + 1) Q) (f + 1) l1 a w → wpAny P .any ops Q (f + 1 + (ops.size - (k + 1))) listed a w := by
  have tailW := wpAny_tailW (P := P) (Q := Q) hk (fun l => l.getD k false = true) (fun l j hl => by
            by_cases hij : j = k
            · subst hij
              rcases Nat.lt_or_ge j l.size with h5 | h5
              · simp [Array.getD, h5]
              · simp [Array.getD, Nat.not_lt.2 h5] at hl
            · rw [getD_set_ne false hij]; exact hl) (fun l il gl j hj hjl t ht htr => by
              rcases Nat.lt_or_ge t (k + 2) with h5 | h5
              · obtain rfl : t = k + 1 := by omega
                by_cases hji : j = k
                · subst hji
                  rw [getD_both hjl] at gl
                  cases gl
                · have := store_waits hs il htr _ j rfl (by omega)
                  rw [hjl] at this
                  cases this
              · exact late_waits hc il (Nat.le_refl _) t h5 htr) hg hb hq
  intro f
  induction f with
  | zero =>
    intro l1 listed a w inv hun hs1 hag1 hu1 h1
    have hls := inv.size
    have hun1 : l1.getD k true = false := by rw [← hag1 k (by omega)]; exact hun
    have hothers : ∀ j, j < k → listed.getD j true = true := by
      intro j hj
      cases hl : listed.getD j true with
      | true => rfl
      | false =>
        exfalso
        have h5 := unlisted_set (listed := l1) (j := k) hun1
        have h6 := unlisted_zero (listed := l1.setIfInBounds k true) (by omega) (j := j) (by simp; omega)
        rw [hag1 j (by omega)] at hl
        rw [getD_set_ne false (by omega)] at h6
        rw [getD_true_iff (by omega), h6] at hl
        cases hl
    have hlist : listed = Array.replicate k true ++ (#[false, false] ++ Array.replicate (ops.size - (k + 2)) false) := by
      apply Array.ext
      · rw [hls]; simp; omega
      · intro j h3 h4
        rcases Nat.lt_or_ge j k with hj | hj
        · have h6 := hothers j hj
          have h7 : listed[j] = true := by simpa [Array.getD, h3] using h6
          rw [h7, Array.getElem_append_left (by simpa using hj)]
          simp
        · have h6 : listed[j] = false := by
            rcases Nat.lt_or_ge k j with h7 | h7
            · have h8 := inv.tail j (by omega) (by omega)
              simpa [Array.getD, h3] using h8
            · obtain rfl : j = k := by omega
              simpa [Array.getD, h3] using hun
          rw [h6, Array.getElem_append_right (by simpa using hj)]
          rcases Nat.lt_or_ge (j - k) 2 with h7 | h7
          · rw [Array.getElem_append_left (by simp; omega)]
            simp only [Array.size_replicate]
            rcases (by omega : j - k = 0 ∨ j - k = 1) with h8 | h8 <;> simp [h8]
          · rw [Array.getElem_append_right (by simp; omega)]
            simp
    have hready : k ∈ Region.ready .any ops listed := by rw [hlist]; simpa using hr
    have hi1 := ready_step hk hb hls hs1 hag1 k (by omega) hready
    have hkk := h1.2 k hi1
    obtain ⟨v, hy, hkk⟩ := pick_yields (ops := ops) (by rw [head_at hk (by omega)]; exact hok) hop hgo hkk
    rw [show 0 + 1 + (ops.size - (k + 1)) = (ops.size - (k + 1)) + 1 by omega]
    refine wpAny_take hok hsel (by rw [hlist]; exact hf) (by rw [hlist]; exact hr) (fun c a w => hQ v c a w) hy ?_
    have hu' : unlisted (l1.setIfInBounds k true) = 0 := by
      have := unlisted_set (listed := l1) (j := k) hun1
      omega
    have h9 := tailW 0 (l1.setIfInBounds k true) (listed.setIfInBounds k true) _ _ (inv.set hready (by omega)) (by simp [Array.getD, show k < listed.size by omega]) (by simpa using hs1) (agree_set (by omega) hs1 (by omega) hag1) hu' hkk
    rwa [Nat.zero_add] at h9
  | succ f ih =>
    intro l1 listed a w inv hun hs1 hag1 hu1 h1
    have hls := inv.size
    have hun1 : l1.getD k true = false := by rw [← hag1 k (by omega)]; exact hun
    obtain ⟨j0, hj0, hun0⟩ : ∃ j, j < k ∧ listed.getD j true = false := by
      obtain ⟨j, hj, hjl⟩ := unlisted_pos (listed := l1.setIfInBounds k true) (f := f) (by have := unlisted_set (listed := l1) (j := k) hun1; omega)
      have hj2 : j < l1.size := by simpa using hj
      by_cases hjk : j = k
      · subst hjk
        simp [Array.getD, hj2] at hjl
      · rw [getD_set_ne true (by omega), ← hag1 j (by omega)] at hjl
        exact ⟨j, by omega, hjl⟩
    rw [show f + 1 + 1 + (ops.size - (k + 1)) = (f + 1 + (ops.size - (k + 1))) + 1 by omega]
    refine ⟨fun h0 => ?_, fun i hi => ?_⟩
    · exfalso
      have h3 := never_stuck hk hb hls h0 k (by omega)
      rw [getD_true_iff (by omega), h3] at hun
      cases hun
    · obtain ⟨hiu, oi, ho, _⟩ := mem_ready.1 hi
      have hik : i < k ∨ i = k := by
        rcases Nat.lt_or_ge i (k + 1) with h3 | h3
        · omega
        · exfalso
          rcases Nat.lt_or_ge i (k + 2) with h4 | h4
          · obtain rfl : i = k + 1 := by omega
            have := store_waits hs inv hi _ j0 rfl (by omega)
            rw [hun0] at this
            cases this
          · exact late_waits hc inv (Nat.le_refl _) i h4 hi
      have hi1 := ready_step hk hb hls hs1 hag1 i (by omega) hi
      have hkk := h1.2 i hi1
      unfold wpOp at hkk ⊢
      rw [head_at hk (by omega)] at hkk
      simp only [ho] at hkk ⊢
      rw [wanted_head hk hg (by omega) ho] at hkk
      have hiu1 : l1.getD i true = false := by rw [← hag1 i (by omega)]; exact hiu
      have hu' : unlisted (l1.setIfInBounds i true) = f + 1 := by
        have := unlisted_set (listed := l1) (j := i) hiu1
        omega
      have hstep : ∀ (a' : Act) (w' : World), wpAny P .any (ops.extract 0 (k + 1)) (thenTail P ops (k + 1) Q) (f + 1) (l1.setIfInBounds i true) a' w' → wpAny P .any ops Q (f + 1 + (ops.size - (k + 1))) (listed.setIfInBounds i true) a' w' := fun a' w' h3 => by
        rcases hik with hik | rfl
        · exact ih _ _ a' w' (inv.set hi (by omega)) (by rw [getD_set_ne true (by omega)]; exact hun) (by simpa using hs1) (agree_set (by omega) hs1 (by omega) hag1) hu' h3
        · exact tailW (f + 1) _ _ a' w' (inv.set hi (by omega)) (by simp [Array.getD, show i < listed.size by omega]) (by simpa using hs1) (agree_set (by omega) hs1 (by omega) hag1) hu' h3
      split
      · rename_i hw
        rw [if_pos hw] at hkk
        exact hkk.imp (fun h1 => Oper.wp_mono hstep (wp_exits h1)) (fun h1 => ⟨h1.1, thenTail_outs h1.2⟩)
      · rename_i hw
        rw [if_neg hw] at hkk
        exact hstep _ _ hkk
/-- **A DRAWN HEAD whose last operation is a pick, A FORCED TAIL that needs not wait for it** -/
theorem wp_region_lateY {id : Nat} {a : Act} {w : World} {ps : List Planned} (k : Nat) {o : Oper} {cc x y : Operand} (eff anc : List Tmp) (R0 R : World → World → Prop) (S : World → Prop) (hm : P.follows .mixedOrders = true)
    (hn0 : decide (k + 1 < ops.size) = true) (hs : sinkL ops k = true) (hc : chainL ops k = true) (hg : guardsIn ops (k + 1) = true) (hb : edgesBack ops (k + 1) = true) (hsel : Region.noSelect ops = true)
    (hok : ops[k]? = some o) (hop : o.op = .pick cc x y) (hgo : o.guard = none) (hQ : ∀ v c a w, Q (.panic c) (a.put o.dst v) w → Q (.panic c) a w)
    (hq : Region.seqB .any ops (ops.size - (k + 1)) (k + 1) (Array.replicate (k + 1) true ++ Array.replicate (ops.size - (k + 1)) false) = true)
    (hr : (Region.ready .any ops (Array.replicate k true ++ (#[false, false] ++ Array.replicate (ops.size - (k + 2)) false))).contains k = true)
    (hf : Region.free .any ops (Array.replicate k true ++ (#[false, false] ++ Array.replicate (ops.size - (k + 2)) false)) k = true)
    (hplan : planOf (ops.extract 0 (k + 1)) (ops.extract 0 (k + 1)).toList = some ps) {n : Nat} (hn : a.tmps.size = n) (hokp : planOk n ps = true) (hch : chained (masks ps []) (effIx eff ps 0) = true) (han : anchored (masks ps []) (effIx eff ps 0) (ancIx eff anc ps 0 0) = true)
    (htr : ∀ a b c, R a b → R b c → R a c) (hrf : ∀ a, R a a) (h0R : ∀ a b, R0 a b → R a b) (hdr : R0 w w.drew) (hS0 : ∀ w w', S w → R0 w w' → S w') (hS : S w)
    (h : wpY P (thenTail P ops (k + 1) Q) R0 R a w eff anc S ps []) : (Code.region id ops true).wp P Q a w := by
  refine wp_region_any hm ?_
  have hk : k + 1 < ops.size := of_decide_eq_true hn0
  have h1 := wpAny_region_eff eff anc R0 R S hplan hn hokp hch han htr hrf h0R hdr hS0 hS (wpY_open h)
  rw [head_size hk] at h1
  have inv0 : HeadInv .any ops (k + 1) (Array.replicate ops.size false) :=
    ⟨by simp, fun j oj _ hl => (by rw [getD_replicate_false] at hl; cases hl), fun t _ ht => getD_in (by simpa using ht) (getD_replicate_false _ _)⟩
  have h2 := wpAny_late hk hs hc hg hb hsel hok hop hgo hQ hq hr hf k (Array.replicate (k + 1) false) (Array.replicate ops.size false) a w.drew inv0 (getD_in (by simp; omega) (getD_replicate_false _ _)) (by simp) (fun j hj => by
    rw [getD_in (by simp; omega) (getD_replicate_false _ _), getD_in (by simpa using hj) (getD_replicate_false _ _)]) (by simp [unlisted, List.countP_replicate]) h1
  rw [show k + 1 + (ops.size - (k + 1)) = ops.size by omega] at h2
  exact h2
end
end Go.Ox
