/-
  GrLawMath, MomMath, packed: what the claim needs of them.
-/
import Derived.Test.YtpmpjjhchkoboaaGreatDoorPa16
import Derived.Test.YtpmpjjhchkoboaaGreatDoorPa11
import Derived.Test.YtpmpjjhchkoboaaGreatDoorPa17
import Derived.Test.YtpmpjjhchkoboaaGreatDoorPa01
set_option linter.unusedVariables false
namespace Go.Ox.Gr
theorem gOk_parts {l : List Nd} {out : Int} (h : gOk (l, out) = true) : 1 ≤ l.length ∧ l.length ≤ 32 ∧ each outOk l 0 = true ∧ 0 ≤ out ∧ out < (l.length : Int) ∧ loops l ≤ 1 := by
  unfold gOk listOk at h
  simp only [Bool.and_eq_true, decide_eq_true_eq] at h
  exact ⟨h.1.1, h.1.2.1, h.1.2.2, h.2.1, h.2.2.1, h.2.2.2⟩
theorem ok_base {n : Nd} {i : Nat} (h : base n i = true) : 1 ≤ n.op ∧ n.op ≤ 11 ∧ n.ins.length ≤ 2 ∧ ∀ x ∈ n.ins, 0 ≤ x ∧ x < (i : Int) := by
  refine ⟨?_, ?_, base_ins h, ?_⟩
  all_goals
    unfold base opOk insOk at h
    simp only [Bool.and_eq_true, decide_eq_true_eq, List.all_eq_true] at h
  · exact h.1.1
  · exact h.1.2
  · exact h.2.2
theorem ok_fn {n : Nd} (h : fnOk n = true) : okI n.kind ∧ okI n.fa := by
  unfold fnOk at h
  unfold okI
  split at h
  · simp only [Bool.and_eq_true, decide_eq_true_eq] at h
    omega
  · rename_i hf
    simp only [decide_eq_true_eq] at h
    unfold fam at h
    split at h
    · omega
    · rename_i hr
      have hk : 1 ≤ n.kind ∧ n.kind ≤ 23 := by
        unfold fk at h
        repeat' split at h
        all_goals omega
      have h1 : 0 ≤ lst n.kind := by unfold lst; split <;> omega
      have h2 : mst n.kind ≤ 1048575 := by unfold mst; repeat' split <;> omega
      omega
theorem ok_num {n : Nd} {loop : Int} (h : numOk n loop = true) (hl : loop ≤ 1000) : okI n.a := by
  unfold numOk at h
  unfold okI
  repeat' split at h
  all_goals
    simp only [Bool.and_eq_true, decide_eq_true_eq] at h
    omega
theorem ok_top {l : List Nd} {out : Int} (h : gOk (l, out) = true) {k : Nat} (hk : k < l.length) : base l[k] k = true ∧ fnOk l[k] = true ∧ numOk l[k] (-1) = true ∧ ((l[k].op = 9 ∧ bodyOk l[k].body k = true) ∨ (l[k].op ≠ 9 ∧ l[k].body = [])) := by
  have h1 := each_all (gOk_parts h).2.2.1 k hk
  rw [Nat.zero_add] at h1
  unfold outOk at h1
  simp only [Bool.and_eq_true] at h1
  refine ⟨h1.1, h1.2.1, h1.2.2.1, ?_⟩
  have h2 := h1.2.2.2
  split at h2
  · rename_i q; exact .inl ⟨q, h2⟩
  · rename_i q; exact .inr ⟨q, List.isEmpty_iff.1 h2⟩
theorem ok_body {l : List Nd} {k : Nat} (h : bodyOk l k = true) : 1 ≤ l.length ∧ l.length ≤ 32 ∧ ∀ (j : Nat) (hj : j < l.length), base l[j] j = true ∧ fnOk l[j] = true ∧ numOk l[j] (k : Int) = true ∧ l[j].body = [] := by
  unfold bodyOk at h
  simp only [Bool.and_eq_true, decide_eq_true_eq] at h
  refine ⟨h.1, h.2.1, fun j hj => ?_⟩
  have h3 := each_all h.2.2 j hj
  rw [Nat.zero_add] at h3
  unfold inOk at h3
  simp only [Bool.and_eq_true] at h3
  exact ⟨h3.1, h3.2.1, h3.2.2.1, List.isEmpty_iff.1 h3.2.2.2⟩
theorem ok_one {n : Nd} {i : Nat} {loop : Int} (hi : i ≤ 1000) (hl : loop ≤ 1000) (h1 : base n i = true) (h2 : fnOk n = true) (h3 : numOk n loop = true) :
    okI n.op ∧ okI n.kind ∧ okI n.fa ∧ okI n.a ∧ n.ins.length ≤ 2 ∧ ∀ x ∈ n.ins, okI x := by
  obtain ⟨a1, a2, a3, a4⟩ := ok_base h1
  exact ⟨by unfold okI; omega, (ok_fn h2).1, (ok_fn h2).2, ok_num h3 hl, a3, fun x hx => by have := a4 x hx; unfold okI; omega⟩
/-- it may be put -/
theorem gOk_fit {l : List Nd} {out : Int} (h : gOk (l, out) = true) : Fit 2 l ∧ okI out := by
  have hp := gOk_parts h
  refine ⟨⟨hp.2.1, fun n hn => ?_⟩, by unfold okI; omega⟩
  obtain ⟨k, hk, rfl⟩ := List.getElem_of_mem hn
  obtain ⟨b1, b2, b3, b4⟩ := ok_top h hk
  refine ⟨ok_one (by omega) (by omega) b1 b2 b3, ?_⟩
  rcases b4 with ⟨h9, hb⟩ | ⟨h9, hb⟩
  · obtain ⟨c1, c2, c3⟩ := ok_body hb
    refine ⟨c2, fun m hm => ?_⟩
    obtain ⟨j, hj, rfl⟩ := List.getElem_of_mem hm
    obtain ⟨d1, d2, d3, d4⟩ := c3 j hj
    exact ⟨ok_one (by omega) (by omega) d1 d2 d3, d4⟩
  · rw [hb]
    exact ⟨by simp, fun m hm => by simp at hm⟩
theorem Sm.up : ∀ {k : Nat} {l : List Nd}, Sm k l → Sm (k + 1) l
  | 0, l, h => by cases h; exact Sm.nil 1
  | k + 1, l, h => ⟨h.1, fun n hn => ⟨(h.2 n hn).1, Sm.up (h.2 n hn).2⟩⟩
end Go.Ox.Gr
namespace Go.Ox.Gr
theorem fit_hdr {n : Nd} (h : okI n.op ∧ okI n.kind ∧ okI n.fa ∧ okI n.a ∧ n.ins.length ≤ 2 ∧ ∀ x ∈ n.ins, okI x) : (hdrL n).length ≤ 63 := by
  obtain ⟨h1, h2, h3, h4, h5, h6⟩ := h
  have a1 := numsL_len [n.op, (n.ins.length : Int)] (by intro x hx; simp at hx; rcases hx with rfl | rfl; exact h1; omega)
  have a2 := numsL_len n.ins h6
  have a3 := numsL_len [n.kind, n.fa, n.a] (by intro x hx; simp at hx; rcases hx with rfl | rfl | rfl; exact h2; exact h3; exact h4)
  unfold hdrL
  rw [List.length_append, List.length_append]
  simp only [List.length_cons, List.length_nil] at a1 a3
  omega
theorem fit_step {d C : Nat} {l : List Nd} (h : Fit (d + 1) l) (hb : ∀ l, Fit d l → (ndsL d l).length ≤ C) : (ndsL (d + 1) l).length ≤ 9 + 32 * (63 + C) := by
  have h0 := put_le9 (n := l.length) (by have := h.1; omega)
  have h1 := flat_le (fun n => hdrL n ++ ndsL d n.body) (63 + C) l (fun n hn => by
    have a := fit_hdr (h.2 n hn).1
    have b := hb _ (h.2 n hn).2
    rw [List.length_append]; omega)
  have h3 : l.length * (63 + C) ≤ 32 * (63 + C) := Nat.mul_le_mul_right _ h.1
  unfold ndsL
  rw [List.length_append]
  omega
theorem grL_len {l : List Nd} {out : Int} (h : Fit 2 l) (ho : okI out) : (grL (l, out)).length ≤ 1000000 := by
  have h2 : (ndsL 2 l).length ≤ 9 + 32 * (63 + (9 + 32 * (63 + 9))) := fit_step (C := 9 + 32 * (63 + 9)) h (fun l h1 => fit_step (C := 9) h1 (fun l h0 => by
    obtain rfl : l = [] := h0
    exact put_le9 (by simp)))
  have h3 := put_le9 (n := out.toNat) (by have := ho.1; have := ho.2; omega)
  unfold grL
  rw [List.length_append]
  dsimp only
  omega
end Go.Ox.Gr
namespace Go.Ox.Mom
abbrev M := Int × Int
def ok (m : M) : Bool := decide (0 ≤ m.1) && decide (m.1 < 65536) && (decide (0 ≤ m.2) && decide (m.2 < 65536))
def ahead (a b : M) : Bool := decide (a.1 ≤ b.1) && decide (a.2 ≤ b.2)
def cmp (a b : M) : Int := if a.1 < b.1 then -1 else if b.1 < a.1 then 1 else if a.2 < b.2 then -1 else if b.2 < a.2 then 1 else 0
def covers (f : List M) (m : M) : Bool := f.any fun x => ahead x m
def lt (a b : M) : Prop := a.1 < b.1 ∨ (a.1 = b.1 ∧ a.2 < b.2)
theorem lt_irrefl (a : M) : ¬ lt a a := by unfold lt; omega
theorem lt_trans {a b c : M} (h : lt a b) (k : lt b c) : lt a c := by unfold lt at *; omega
theorem lt_conn (a b : M) : lt a b ∨ a = b ∨ lt b a := by
  obtain ⟨a1, a2⟩ := a
  obtain ⟨b1, b2⟩ := b
  unfold lt
  simp only [Prod.mk.injEq]
  omega
theorem cmp_lt {a b : M} : cmp a b < 0 ↔ lt a b := by
  unfold cmp lt
  split
  · simp_all
  · split
    · simp; omega
    · split
      · simp; omega
      · split <;> simp <;> omega
theorem ahead_refl (a : M) : ahead a a = true := by unfold ahead; simp
theorem covers_iff {f : List M} {m : M} : covers f m = true ↔ ∃ x ∈ f, ahead x m = true := by unfold covers; simp
def step (out : List M) (m : M) : List M := if covers out m = true then out else out ++ [m]
/-- of what was looked at: all is covered; what is kept was there, ascends, and none of it is ahead of a later one -/
structure Good (pre out : List M) : Prop where
  cov : ∀ k ∈ pre, covers out k = true
  sub : ∀ k ∈ out, k ∈ pre
  asc : out.Pairwise lt
  anti : out.Pairwise fun a b => ahead a b = false
theorem Good.step {pre out : List M} {m : M} (h : Good pre out) (hm : ∀ k ∈ pre, ¬ lt m k) : Good (pre ++ [m]) (step out m) := by
  unfold Mom.step
  split
  · rename_i hc
    refine ⟨fun k hk => ?_, fun k hk => List.mem_append_left _ (h.sub k hk), h.asc, h.anti⟩
    rcases List.mem_append.1 hk with hk | hk
    · exact h.cov k hk
    · rw [List.mem_singleton.1 hk]; exact hc
  · rename_i hc
    have hno : ∀ x ∈ out, ahead x m = false := fun x hx => by
      cases hq : ahead x m with
      | false => rfl
      | true => exact absurd (covers_iff.2 ⟨x, hx, hq⟩) hc
    refine ⟨fun k hk => ?_, fun k hk => ?_, ?_, ?_⟩
    · rcases List.mem_append.1 hk with hk | hk
      · obtain ⟨x, hx, hq⟩ := covers_iff.1 (h.cov k hk)
        exact covers_iff.2 ⟨x, List.mem_append_left _ hx, hq⟩
      · rw [List.mem_singleton.1 hk]
        exact covers_iff.2 ⟨m, by simp, ahead_refl m⟩
    · rcases List.mem_append.1 hk with hk | hk
      · exact List.mem_append_left _ (h.sub k hk)
      · exact List.mem_append_right _ hk
    · refine List.pairwise_append.2 ⟨h.asc, by simp, fun a ha b hb => ?_⟩
      rw [List.mem_singleton.1 hb]
      rcases lt_conn a m with h1 | h1 | h1
      · exact h1
      · exfalso
        have := hno a ha
        rw [h1, ahead_refl] at this
        cases this
      · exact absurd h1 (hm a (h.sub a ha))
    · refine List.pairwise_append.2 ⟨h.anti, by simp, fun a ha b hb => ?_⟩
      rw [List.mem_singleton.1 hb]
      exact hno a ha
/-- how many stand ahead -/
def place (out : List M) (m : M) : Nat := (out.takeWhile fun x => decide (cmp x m < 0)).length
def ins (out : List M) (m : M) : List M :=
  if out[place out m]? = some m then out else out.take (place out m) ++ m :: out.drop (place out m)
end Go.Ox.Mom
