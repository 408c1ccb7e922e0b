/-
  The plain law of layer 21: what was added and taken away again; the order of additions.
-/
import Derived.Test.YtngdlahgihbmhaaCntMath
namespace Go.Ox.Cnt

/-- of a key, all that was added -/
def sumK (l : List S) (k : K) : Int := (l.map fun x => if x.1 = k then x.2 else 0).sum
theorem sumK_nil (k : K) : sumK [] k = 0 := rfl
theorem sumK_cons (x : S) (l : List S) (k : K) : sumK (x :: l) k = (if x.1 = k then x.2 else 0) + sumK l k := by
  unfold sumK; rw [List.map_cons, List.sum_cons]
theorem sumK_app (l r : List S) (k : K) : sumK (l ++ r) k = sumK l k + sumK r k := by
  unfold sumK; rw [List.map_append, List.sum_append]
theorem sumK_pos {l : List S} (h : ∀ x ∈ l, 0 ≤ x.2) (k : K) : 0 ≤ sumK l k := by
  induction l with
  | nil => exact Int.le_refl _
  | cons x l ih =>
    rw [sumK_cons]
    have h1 := ih fun y hy => h y (List.mem_cons_of_mem _ hy)
    have h2 := h x (List.mem_cons_self ..)
    split <;> omega
theorem sumK_le {l : List S} {c : Int} (h : ∀ x ∈ l, 0 ≤ x.2 ∧ x.2 ≤ c) (k : K) : sumK l k ≤ l.length * c := by
  induction l with
  | nil => simp [sumK]
  | cons x l ih =>
    rw [sumK_cons]
    have h1 := ih fun y hy => h y (List.mem_cons_of_mem _ hy)
    have h2 := h x (List.mem_cons_self ..)
    rw [List.length_cons]
    have h3 : ((l.length + 1 : Nat) : Int) * c = l.length * c + c := by rw [Int.natCast_succ, Int.add_mul, Int.one_mul]
    rw [h3]
    split <;> omega
/-- an addition that goes well -/
theorem add_okay {L : List S} (h : Good L) {k : K} {n : Int} (h0 : (add L k n).2 = 0) : Mom.ok k.2 = true ∧ 0 ≤ was L k + n ∧ was L k + n ≤ 1073741824 ∧ ∀ x, was (add L k n).1 x = was L x + if k = x then n else 0 := by
  unfold add at *
  split at h0
  · cases h0
  · rename_i hk
    split at h0
    · cases h0
    · rename_i hr
      rw [if_neg hk, if_neg hr]
      refine ⟨by simpa using hk, by omega, by omega, fun x => ?_⟩
      show was (rput L (k, was L k + n)) x = _
      rw [rput_was h _ (by simp only; omega) (by simp only; omega)]
      simp only
      by_cases hq : x = k
      · subst hq; simp
      · rw [if_neg hq, if_neg (fun e => hq e.symm)]; omega
theorem add_goes {L : List S} {k : K} {n : Int} (hk : Mom.ok k.2 = true) (h1 : - was L k ≤ n) (h2 : n ≤ 1073741824 - was L k) : (add L k n).2 = 0 := by
  unfold add
  rw [if_neg (by simp [hk]), if_neg (by omega)]
theorem add_fail {L : List S} {k : K} {n : Int} (h : (add L k n).2 ≠ 0) : (add L k n).1 = L := by
  unfold add at *
  split
  · rfl
  · rename_i hk
    rw [if_neg hk] at h
    split
    · rfl
    · rename_i hr
      rw [if_neg hr] at h
      exact absurd rfl h
/-- what is there is what was done -/
structure Done (L : List S) (done : List S) : Prop where
  good : Good L
  pos : ∀ x ∈ done, 0 ≤ x.2 ∧ Mom.ok x.1.2 = true
  was : ∀ k, was L k = sumK done k
theorem Done.start : Done [] [] := ⟨good_nil, by simp, fun k => by rw [sumK_nil]; exact was_not (by simp)⟩
theorem Done.put {L done : List S} (h : Done L done) {k : K} {n : Int} (hn : 0 ≤ n) (h0 : (add L k n).2 = 0) : Done (add L k n).1 (done ++ [(k, n)]) := by
  obtain ⟨h1, _, _, h2⟩ := add_okay h.good h0
  refine ⟨add_good h.good k n, fun x hx => ?_, fun x => ?_⟩
  · rcases List.mem_append.1 hx with hx | hx
    · exact h.pos x hx
    · rw [List.mem_singleton.1 hx]; exact ⟨hn, h1⟩
  · rw [h2, h.was, sumK_app, sumK_cons, sumK_nil]; simp
/-- the first of what was done is taken away -/
theorem Done.take {L rest : List S} {x : S} (h : Done L (x :: rest)) : (add L x.1 (-x.2)).2 = 0 ∧ Done (add L x.1 (-x.2)).1 rest := by
  have hx := h.pos x (List.mem_cons_self ..)
  have hr : ∀ y ∈ rest, 0 ≤ y.2 := fun y hy => (h.pos y (List.mem_cons_of_mem _ hy)).1
  have hw := h.was x.1
  rw [sumK_cons, if_pos rfl] at hw
  have hs := sumK_pos hr x.1
  have hb := was_bounds h.good x.1
  have h0 : (add L x.1 (-x.2)).2 = 0 := add_goes hx.2 (by omega) (by omega)
  obtain ⟨_, _, _, h2⟩ := add_okay h.good h0
  refine ⟨h0, add_good h.good _ _, fun y hy => h.pos y (List.mem_cons_of_mem _ hy), fun k => ?_⟩
  rw [h2, h.was, sumK_cons]
  by_cases hq : x.1 = k
  · rw [if_pos hq, if_pos hq]; omega
  · rw [if_neg hq, if_neg hq]; omega
theorem Done.none {L : List S} (h : Done L []) : L = [] := by
  refine was_eq h.good good_nil fun k => ?_
  rw [h.was, sumK_nil]
  exact (was_not (by simp)).symm

/-! ### the order of additions -/
/-- of what may be added, all -/
def okS (l : List S) : List S := l.filter fun x => Mom.ok x.1.2
theorem okS_len (l : List S) : (okS l).length ≤ l.length := List.length_filter_le _ _
theorem okS_mem {l : List S} {x : S} (h : x ∈ okS l) : x ∈ l ∧ Mom.ok x.1.2 = true := by
  have := List.mem_filter.1 h
  exact ⟨this.1, by simpa using this.2⟩
/-- additions of numbers that are not great, of few: none but the moments' faults -/
structure Sums (L : List S) (l : List S) : Prop where
  good : Good L
  was : ∀ k, was L k = sumK (okS l) k
theorem Sums.start : Sums [] [] := ⟨good_nil, fun k => by
  show Cnt.was [] k = sumK [] k
  rw [sumK_nil]; exact was_not (by simp)⟩
theorem Sums.put {L l : List S} (h : Sums L l) (hl : l.length ≤ 60) (hb : ∀ x ∈ l, 0 ≤ x.2 ∧ x.2 ≤ 1048576) {k : K} {n : Int} (hn : 0 ≤ n ∧ n ≤ 1048576) : Sums (add L k n).1 (l ++ [(k, n)]) := by
  have hs1 := sumK_pos (l := okS l) (fun x hx => (hb x (okS_mem hx).1).1) k
  have hs2 := sumK_le (l := okS l) (c := 1048576) (fun x hx => hb x (okS_mem hx).1) k
  have hlen := okS_len l
  have hw := h.was k
  have happ : okS (l ++ [(k, n)]) = okS l ++ okS [(k, n)] := by unfold okS; rw [List.filter_append]
  cases hk : Mom.ok k.2 with
  | false =>
    have h1 : okS [(k, n)] = [] := by simp [okS, hk]
    have h2 : (add L k n).1 = L := by unfold add; rw [if_pos hk]
    rw [h2]
    exact ⟨h.good, fun x => by rw [happ, h1, List.append_nil, h.was]⟩
  | true =>
    have h1 : okS [(k, n)] = [(k, n)] := by simp [okS, hk]
    have h0 : (add L k n).2 = 0 := add_goes hk (by omega) (by
      have : ((okS l).length : Int) * 1048576 ≤ 60 * 1048576 := by omega
      omega)
    obtain ⟨_, _, _, h2⟩ := add_okay h.good h0
    exact ⟨add_good h.good k n, fun x => by rw [h2, h.was, happ, h1, sumK_app, sumK_cons, sumK_nil]; simp⟩
theorem sumK_perm {l r : List S} (h : l.Perm r) (k : K) : sumK l k = sumK r k := by
  induction h with
  | nil => rfl
  | cons x _ ih => rw [sumK_cons, sumK_cons, ih]
  | swap x y l => rw [sumK_cons, sumK_cons, sumK_cons, sumK_cons]; omega
  | trans _ _ ih1 ih2 => rw [ih1, ih2]
theorem Sums.same {L M l r : List S} (h : Sums L l) (k : Sums M r) (hp : l.Perm r) : L = M := by
  refine was_eq h.good k.good fun x => ?_
  rw [h.was, k.was]
  exact sumK_perm (hp.filter _) x
end Go.Ox.Cnt
