/-
  Runs: the plain laws of RunFills, RunWide, RunParts.
-/
import Derived.Test.YtbokblklldphgaaRun
import Derived.Test.YtbokblklldphgaaRunFr
set_option linter.unusedVariables false
namespace Go.Ox.Ent
/-- the entries of RunFills -/
def fl (i : Nat) : E := (((i : Int), 7), (i : Int), 0)
def fill (n : Nat) : List E := (List.range n).map fl
theorem fill_s (n : Nat) : fill (n + 1) = fill n ++ [fl n] := by unfold fill; rw [List.range_succ, List.map_append]; rfl
theorem fill_len (n : Nat) : (fill n).length = n := by unfold fill; simp
theorem fill_asc (n : Nat) : Asc (fill n) := by
  unfold Asc fill
  rw [List.pairwise_map]
  refine List.Pairwise.imp ?_ List.pairwise_lt_range
  intro a b h q
  unfold lt Mom.lt fl at q
  simp only at q
  rcases q with q | q
  · omega
  · have := q.1; simp at this; omega
theorem fill_srt (n : Nat) : srt (fill n) = fill n := (srt_is (fill_asc n) (List.Perm.refl _)).symm
theorem fill_front : ∀ (n : Nat), Mom.front (moms (fill (n + 1))) = [(0, 7)]
  | 0 => by decide
  | n + 1 => by
    have ih := fill_front n
    rw [fill_s (n + 1)]
    unfold moms Mom.front at *
    rw [List.map_append, List.foldl_append, ih]
    have h : Mom.covers [((0 : Int), (7 : Int))] (fl (n + 1)).1 = true := by
      unfold Mom.covers fl Mom.ahead
      simp
      omega
    simp only [List.map_cons, List.map_nil, List.foldl_cons, List.foldl_nil]
    unfold Mom.step
    rw [if_pos h]
theorem fill_frt {n : Nat} (h : 0 < n) : frt (fill n) = [(0, 7)] := by
  obtain ⟨m, rfl⟩ : ∃ m, n = m + 1 := ⟨n - 1, by omega⟩
  unfold frt
  rw [fill_srt, fill_front]; rfl
theorem fill_ok {n : Nat} (h : n ≤ 5000) : okE (fl n) = 0 := by
  have h1 : Mom.ok (fl n).1 = true := by unfold Mom.ok fl; simp; omega
  have h2 : Rec.ok (fl n).2 = true := by unfold Rec.ok fl; simp; omega
  unfold okE
  rw [if_pos h1, if_pos h2]
/-- the entries of RunWide -/
def wd (i : Nat) : E := (((i : Int), 1000 - (i : Int)), 0, 0)
def wide (n : Nat) : List E := (List.range n).map wd
theorem wide_s (n : Nat) : wide (n + 1) = wide n ++ [wd n] := by unfold wide; rw [List.range_succ, List.map_append]; rfl
theorem wide_len (n : Nat) : (wide n).length = n := by unfold wide; simp
theorem wide_asc (n : Nat) : Asc (wide n) := by
  unfold Asc wide
  rw [List.pairwise_map]
  refine List.Pairwise.imp ?_ List.pairwise_lt_range
  intro a b h q
  unfold lt Mom.lt wd at q
  simp only at q
  rcases q with q | q
  · omega
  · have := q.1; simp at this; omega
theorem wide_srt (n : Nat) : srt (wide n) = wide n := (srt_is (wide_asc n) (List.Perm.refl _)).symm
theorem wide_front : ∀ (n : Nat), Mom.front (moms (wide n)) = moms (wide n)
  | 0 => rfl
  | n + 1 => by
    have ih := wide_front n
    rw [wide_s n]
    unfold moms Mom.front at *
    rw [List.map_append, List.foldl_append, ih]
    have h : Mom.covers ((wide n).map (·.1)) (wd n).1 = false := by
      unfold Mom.covers
      rw [List.any_eq_false]
      intro x hx
      unfold wide at hx
      rw [List.map_map, List.mem_map] at hx
      obtain ⟨j, hj, rfl⟩ := hx
      have := List.mem_range.1 hj
      unfold Mom.ahead wd
      simp
      omega
    simp only [List.map_cons, List.map_nil, List.foldl_cons, List.foldl_nil]
    unfold Mom.step
    rw [if_neg (by rw [h]; decide)]
theorem wide_at {n i : Nat} (h : i < (frt (wide n)).length) : (frt (wide n))[i] = ((i : Int), 1000 - (i : Int)) := by
  unfold frt at h ⊢
  simp only [wide_srt, wide_front] at h ⊢
  rw [List.getElem_take]
  unfold moms wide wd
  simp
theorem wide_frt_len (n : Nat) : (frt (wide n)).length = min 256 n := by
  unfold frt
  rw [wide_srt, wide_front, List.length_take]
  unfold moms
  rw [List.length_map, wide_len]
theorem wide_ok {n : Nat} (h : n ≤ 1000) : okE (wd n) = 0 := by
  have h1 : Mom.ok (wd n).1 = true := by unfold Mom.ok wd; simp; omega
  have h2 : Rec.ok (wd n).2 = true := by unfold Rec.ok wd; simp
  unfold okE
  rw [if_pos h1, if_pos h2]
/-! ### what is at each moment, one behind the other -/
theorem ne_lt {S : List E} (h : Asc S) {i j : Nat} (hij : i < j) (hj : j < S.length) : ¬ Mom.lt S[j].1 S[i].1 := by
  have := (List.pairwise_iff_getElem.1 h) i j (by omega) hj hij
  intro q
  exact this (.inl q)
theorem filt_snoc {S : List E} (h : Asc S) (m : Int × Int) : S.filter (fun x => decide (¬ Mom.lt m x.1)) = S.filter (fun x => decide (Mom.lt x.1 m)) ++ S.filter (fun x => decide (x.1 = m)) := by
  induction S with
  | nil => rfl
  | cons x S ih =>
    have h2 := List.pairwise_cons.1 h
    have ih := ih h2.2
    rcases Mom.lt_conn x.1 m with q | q | q
    · have q2 : ¬ Mom.lt m x.1 := fun r => Mom.lt_irrefl _ (Mom.lt_trans q r)
      have q3 : ¬ x.1 = m := fun r => by rw [r] at q; exact Mom.lt_irrefl _ q
      rw [List.filter_cons_of_pos (by simpa using q2), List.filter_cons_of_pos (by simpa using q), List.filter_cons_of_neg (by simpa using q3), ih]
      rfl
    · have none : S.filter (fun x => decide (Mom.lt x.1 m)) = [] := by
        rw [List.filter_eq_nil_iff]
        intro y hy
        have := h2.1 y hy
        simp only [decide_eq_true_eq]
        exact fun r => this (.inl (by rw [q]; exact r))
      have q2 : ¬ Mom.lt m x.1 := by rw [q]; exact Mom.lt_irrefl _
      have q3 : ¬ Mom.lt x.1 m := by rw [q]; exact Mom.lt_irrefl _
      rw [List.filter_cons_of_pos (by simpa using q2), List.filter_cons_of_neg (by simpa using q3), List.filter_cons_of_pos (by simpa using q), none]
      rw [none] at ih
      rw [ih]
      rfl
    · have q2 : ¬ Mom.lt x.1 m := fun r => Mom.lt_irrefl _ (Mom.lt_trans q r)
      have q3 : ¬ x.1 = m := fun r => by rw [r] at q; exact Mom.lt_irrefl _ q
      rw [List.filter_cons_of_neg (by simpa using q), List.filter_cons_of_neg (by simpa using q2), List.filter_cons_of_neg (by simpa using q3), ih]
/-- what was taken so far: all whose moment is not behind the last one's -/
def upTo (S : List E) : Nat → List E
  | 0 => []
  | i + 1 => if h : i < S.length then S.filter (fun x => decide (¬ Mom.lt S[i].1 x.1)) else S
theorem upTo_in {S : List E} {i : Nat} (h : i < S.length) : upTo S (i + 1) = S.filter (fun x => decide (¬ Mom.lt S[i].1 x.1)) := dif_pos h
theorem upTo_out {S : List E} {i : Nat} (h : ¬ i < S.length) : upTo S (i + 1) = S := dif_neg h
theorem upTo_len (S : List E) (i : Nat) : (upTo S i).length ≤ S.length := by
  cases i with
  | zero => simp [upTo]
  | succ i =>
    by_cases h : i < S.length
    · rw [upTo_in h]; exact List.length_filter_le _ _
    · rw [upTo_out h]; exact Nat.le_refl _
theorem upTo_same {S : List E} {i : Nat} (h : i + 1 < S.length) (he : S[i + 1].1 = S[i].1) : upTo S (i + 2) = upTo S (i + 1) := by
  rw [upTo_in h, upTo_in (by omega), he]
theorem upTo_next {S : List E} (hS : Asc S) {i : Nat} (h : i + 1 < S.length) (he : S[i + 1].1 ≠ S[i].1) : upTo S (i + 2) = upTo S (i + 1) ++ S.filter (fun x => decide (x.1 = S[i + 1].1)) := by
  rw [upTo_in h, upTo_in (show i < S.length by omega), filt_snoc hS]
  congr 1
  refine List.filter_congr fun x hx => ?_
  obtain ⟨j, hj, rfl⟩ := List.getElem_of_mem hx
  have h1 : Mom.lt S[i].1 S[i + 1].1 := by
    rcases Mom.lt_conn S[i].1 S[i + 1].1 with q | q | q
    · exact q
    · exact absurd q.symm he
    · exact absurd q (ne_lt hS (Nat.lt_succ_self i) h)
  rcases Nat.lt_trichotomy j (i + 1) with q | q | q
  · have a1 : ¬ Mom.lt S[i].1 S[j].1 := by
      rcases Nat.lt_or_ge j i with r | r
      · exact ne_lt hS r (by omega)
      · have : j = i := by omega
        subst this; exact Mom.lt_irrefl _
    have a2 : Mom.lt S[j].1 S[i + 1].1 := by
      rcases Mom.lt_conn S[j].1 S[i + 1].1 with r | r | r
      · exact r
      · rw [r] at a1; exact absurd h1 a1
      · exact absurd (Mom.lt_trans h1 r) a1
    simp [a1, a2]
  · subst q
    simp [h1, Mom.lt_irrefl]
  · have a1 : ¬ Mom.lt S[j].1 S[i + 1].1 := ne_lt hS q hj
    have a2 : Mom.lt S[i].1 S[j].1 := by
      rcases Mom.lt_conn S[i].1 S[j].1 with r | r | r
      · exact r
      · rw [← r] at a1; exact absurd h1 a1
      · exact absurd (Mom.lt_trans r h1) a1
    simp [a1, a2]
theorem upTo_first {S : List E} (hS : Asc S) (h : 0 < S.length) : upTo S 1 = S.filter (fun x => decide (x.1 = S[0].1)) := by
  rw [upTo_in h, filt_snoc hS]
  have none : S.filter (fun x => decide (Mom.lt x.1 S[0].1)) = [] := by
    rw [List.filter_eq_nil_iff]
    intro y hy
    obtain ⟨j, hj, rfl⟩ := List.getElem_of_mem hy
    simp only [decide_eq_true_eq]
    rcases Nat.eq_zero_or_pos j with q | q
    · subst q; exact Mom.lt_irrefl _
    · exact ne_lt hS q hj
  rw [none]; rfl
theorem upTo_all {S : List E} (hS : Asc S) : upTo S S.length = S := by
  rcases Nat.eq_zero_or_pos S.length with h | h
  · have := List.eq_nil_of_length_eq_zero h
    subst this; rfl
  · obtain ⟨n, hn⟩ : ∃ n, S.length = n + 1 := ⟨S.length - 1, by omega⟩
    rw [hn, upTo_in (by omega), List.filter_eq_self]
    intro x hx
    obtain ⟨j, hj, rfl⟩ := List.getElem_of_mem hx
    simp only [decide_eq_true_eq]
    rcases Nat.lt_or_ge j n with q | q
    · exact ne_lt hS q (by omega)
    · have : j = n := by omega
      subst this; exact Mom.lt_irrefl _
end Go.Ox.Ent
namespace Go.Proofs.Ytbokblklldphgaa
open Go.RowKit Go.Ox
theorem fill_add {k a : Nat} (hk : k ≤ 5000) (h : k < a) : addE (Ent.fill k) a (Ent.fl k) = 0 ∧ addL (Ent.fill k) a (Ent.fl k) = Ent.fill (k + 1) ∧ addM (Ent.fill k) a k (Ent.fl k) = ((k + 1 : Nat) : Int) := by
  have e : addE (Ent.fill k) a (Ent.fl k) = 0 := addE_ok (Ent.fill_ok hk) (by rw [Ent.fill_len]; omega)
  obtain ⟨h1, h2⟩ := add_yes (b := (k : Int)) e
  exact ⟨e, by rw [h1, Ent.fill_s], by rw [h2, Ent.fill_len]; omega⟩
theorem fill_full {k a : Nat} (hk : k ≤ 5000) (h : a ≤ k) : addE (Ent.fill a) a (Ent.fl k) = 2 ∧ addL (Ent.fill a) a (Ent.fl k) = Ent.fill a ∧ addM (Ent.fill a) a a (Ent.fl k) = (a : Int) := by
  have e : addE (Ent.fill a) a (Ent.fl k) = 2 := addE_full (Ent.fill_ok hk) (by rw [Ent.fill_len]; omega)
  obtain ⟨h1, h2⟩ := add_not (b := (a : Int)) (l := Ent.fill a) (a := a) (x := Ent.fl k) (by rw [e]; decide)
  exact ⟨e, h1, h2⟩
theorem wide_add {k : Nat} {b : Int} (hk : k < 1000) : addE (Ent.wide k) 1000 (Ent.wd k) = 0 ∧ addL (Ent.wide k) 1000 (Ent.wd k) = Ent.wide (k + 1) := by
  have e : addE (Ent.wide k) 1000 (Ent.wd k) = 0 := addE_ok (Ent.wide_ok (by omega)) (by rw [Ent.wide_len]; omega)
  exact ⟨e, by rw [(add_yes (b := b) e).1, Ent.wide_s]⟩
/-- what a run of room enough holds of entries -/
def held (l : List Ent.E) : List Ent.E := l.filter fun x => decide (Ent.okE x = 0)
theorem held_s (l : List Ent.E) {k : Nat} (h : k < l.length) (hl : l.length ≤ 4096) : addL (held (l.take k)) 4096 l[k] = held (l.take (k + 1)) := by
  have hn : (held (l.take k)).length ≤ k := Nat.le_trans (List.length_filter_le _ _) (by rw [List.length_take]; omega)
  rw [show held (l.take (k + 1)) = held (l.take k) ++ (if Ent.okE l[k] = 0 then [l[k]] else []) by
    unfold held
    rw [List.take_succ_eq_append_getElem h, List.filter_append]
    congr 1
    by_cases q : Ent.okE l[k] = 0 <;> simp [q]]
  by_cases q : Ent.okE l[k] = 0
  · rw [if_pos q, (add_yes (b := 0) (addE_ok q (by omega))).1]
  · rw [if_neg q, List.append_nil, (add_not (b := 0) (by rw [addE_bad q]; exact q)).1]
end Go.Proofs.Ytbokblklldphgaa
