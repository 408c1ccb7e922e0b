/-
  The plain law of shards.
-/
import Derived.Test.YtjgcalgjfhjejaaRecMath
namespace Go.Ox.Rt
open Go.Ox

/-- a key's shard -/
def shard (k n : Int) : Int := if k < 0 ∨ 1048575 < k ∨ n < 1 ∨ 8 < n then 0 else k * 2654435761 % 4294967296 / 65536 % n
theorem shard_bd (k : Int) {n : Nat} (h : 1 ≤ n) : 0 ≤ shard k n ∧ shard k n < n := by
  unfold shard
  split
  · omega
  · have h0 : (0 : Int) < (n : Int) := by omega
    exact ⟨Int.emod_nonneg _ (by omega), Int.emod_lt_of_pos _ h0⟩
/-- of each shard its records -/
def spl (S : List Rec.R) (n : Nat) : List (List Rec.R) := (List.range n).map fun k : Nat => S.filter fun r => decide (shard r.1 n = (k : Int))
theorem spl_len (S : List Rec.R) (n : Nat) : (spl S n).length = n := by unfold spl; simp
theorem spl_at (S : List Rec.R) (n : Nat) {k : Nat} (h : k < (spl S n).length) : (spl S n)[k] = S.filter fun r => decide (shard r.1 n = (k : Int)) := by
  simp only [spl, List.getElem_map, List.getElem_range]
theorem spl_nil (n : Nat) : spl [] n = List.replicate n [] := by
  refine List.ext_getElem (by simp [spl_len]) fun i h1 h2 => ?_
  rw [spl_at]; simp
theorem spl_snoc (S : List Rec.R) (n : Nat) (r : Rec.R) {k : Nat} (hk : shard r.1 n = k) (h : k < (spl S n).length) : spl (S ++ [r]) n = (spl S n).set k ((spl S n)[k] ++ [r]) := by
  refine List.ext_getElem (by simp [spl_len]) fun i h1 h2 => ?_
  rw [spl_at, List.getElem_set]
  by_cases hi : k = i
  · subst hi
    rw [if_pos rfl, spl_at, List.filter_append]
    simp [hk]
  · rw [if_neg hi, spl_at, List.filter_append]
    have : ¬ shard r.1 n = (i : Int) := by rw [hk]; omega
    simp [this]
theorem flat_set {α : Type} : ∀ (ls : List (List α)) (k : Nat) (h : k < ls.length) (r : α), (ls.set k (ls[k] ++ [r])).flatten.Perm (ls.flatten ++ [r])
  | l :: ls, 0, _, r => by
    simp only [List.set_cons_zero, List.getElem_cons_zero, List.flatten_cons, List.append_assoc]
    exact List.Perm.append_left _ List.perm_append_comm
  | l :: ls, k + 1, h, r => by
    simp only [List.set_cons_succ, List.getElem_cons_succ, List.flatten_cons, List.append_assoc]
    exact List.Perm.append_left _ (flat_set ls k (by simpa using h) r)
theorem flat_rep {α : Type} : ∀ (n : Nat), (List.replicate n ([] : List α)).flatten = []
  | 0 => rfl
  | n + 1 => by rw [List.replicate_succ, List.flatten_cons, flat_rep n]; rfl
theorem spl_perm (S : List Rec.R) {n : Nat} (hn : 1 ≤ n) : (spl S n).flatten.Perm S := by
  have key : ∀ i, i ≤ S.length → (spl (S.take i) n).flatten.Perm (S.take i) := by
    intro i
    induction i with
    | zero => intro _; rw [List.take_zero, spl_nil, flat_rep]
    | succ i ih =>
      intro hi
      have hb := shard_bd S[i].1 hn
      rw [List.take_succ_eq_append_getElem (by omega)]
      have hk : shard S[i].1 n = ((shard S[i].1 n).toNat : Nat) := by omega
      have hl : (shard S[i].1 n).toNat < (spl (S.take i) n).length := by rw [spl_len]; omega
      rw [spl_snoc _ _ _ hk hl]
      exact (flat_set _ _ hl _).trans (List.Perm.append_right _ (ih (by omega)))
  have := key S.length (Nat.le_refl _)
  rwa [List.take_length] at this
theorem spl_mem {S : List Rec.R} {n k : Nat} {h : k < (spl S n).length} {r : Rec.R} (hr : r ∈ (spl S n)[k]) : r ∈ S ∧ shard r.1 n = k := by
  rw [spl_at] at hr
  have := List.mem_filter.1 hr
  exact ⟨this.1, by simpa using this.2⟩
/-- each part may be -/
theorem spl_may {S : List Rec.R} {n k : Nat} (hS : Rec.may S = 0) (h : k < (spl S n).length) : Rec.may (spl S n)[k] = 0 := by
  obtain ⟨h1, h2⟩ := Rec.may_ok hS
  refine Rec.may_of (fun x hx => h1 x (spl_mem hx).1) ?_
  rw [spl_at]
  have := List.length_filter_le (fun r : Rec.R => decide (shard r.1 n = k)) S
  omega
theorem spl_flat_may {S : List Rec.R} {n : Nat} (hn : 1 ≤ n) (hS : Rec.may S = 0) : Rec.may (spl S n).flatten = 0 ∧ (spl S n).flatten.length = S.length := by
  obtain ⟨h1, h2⟩ := Rec.may_ok hS
  have hp := spl_perm S hn
  exact ⟨Rec.may_of (fun x hx => h1 x (hp.mem_iff.1 hx)) (by rw [hp.length_eq]; exact h2), hp.length_eq⟩
theorem spl_count {S : List Rec.R} {n k : Nat} {h : k < (spl S n).length} {r : Rec.R} (hr : r ∈ (spl S n)[k]) : ((spl S n)[k]).count r = S.count r := by
  have hs := (spl_mem hr).2
  rw [spl_at]
  exact List.count_filter (by simpa using hs)
end Go.Ox.Rt
