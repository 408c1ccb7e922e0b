/-
  GrLawMath, MomMath, RecMath, packed: what the claim needs of them.
-/
import Derived.Test.YtpmpjjhchkoboaaGreatDoorPc15
import Derived.Test.YtpmpjjhchkoboaaGreatDoorPc10
import Derived.Test.YtpmpjjhchkoboaaGreatDoorPc16
import Derived.Test.YtpmpjjhchkoboaaGreatDoorPc01
set_option linter.unusedVariables false
namespace Go.Ox.Gr
theorem gOk_parts {l : List Nd} {out : Int} (h : gOk (l, out) = true) : 1 ≤ l.length ∧ l.length ≤ 32 ∧ each outOk l 0 = true ∧ 0 ≤ out ∧ out < (l.length : Int) ∧ loops l ≤ 1 := by
 unfold gOk listOk at h
 simp only [Bool.and_eq_true, decide_eq_true_eq] at h
 exact ⟨h.1.1, h.1.2.1, h.1.2.2, h.2.1, h.2.2.1, h.2.2.2⟩
theorem ok_base {n : Nd} {i : Nat} (h : base n i = true) : 1 ≤ n.op ∧ n.op ≤ 11 ∧ n.ins.length ≤ 2 ∧ ∀ x ∈ n.ins, 0 ≤ x ∧ x < (i : Int) := by
 refine ⟨?_, ?_, base_ins h, ?_⟩
 all_goals
  unfold base opOk insOk at h
  simp only [Bool.and_eq_true, decide_eq_true_eq, List.all_eq_true] at h
 · exact h.1.1
 · exact h.1.2
 · exact h.2.2
theorem ok_fn {n : Nd} (h : fnOk n = true) : okI n.kind ∧ okI n.fa := by
 unfold fnOk at h
 unfold okI
 split at h
 · simp only [Bool.and_eq_true, decide_eq_true_eq] at h
   omega
 · rename_i hf
   simp only [decide_eq_true_eq] at h
   unfold fam at h
   split at h
   · omega
   · rename_i hr
     have hk : 1 ≤ n.kind ∧ n.kind ≤ 23 := by
      unfold fk at h
      repeat' split at h
      all_goals omega
     have h1 : 0 ≤ lst n.kind := by unfold lst; split <;> omega
     have h2 : mst n.kind ≤ 1048575 := by unfold mst; repeat' split <;> omega
     omega
theorem ok_num {n : Nd} {loop : Int} (h : numOk n loop = true) (hl : loop ≤ 1000) : okI n.a := by
 unfold numOk at h
 unfold okI
 repeat' split at h
 all_goals
  simp only [Bool.and_eq_true, decide_eq_true_eq] at h
  omega
theorem ok_top {l : List Nd} {out : Int} (h : gOk (l, out) = true) {k : Nat} (hk : k < l.length) : base l[k] k = true ∧ fnOk l[k] = true ∧ numOk l[k] (-1) = true ∧ ((l[k].op = 9 ∧ bodyOk l[k].body k = true) ∨ (l[k].op ≠ 9 ∧ l[k].body = [])) := by
 have h1 := each_all (gOk_parts h).2.2.1 k hk
 rw [Nat.zero_add] at h1
 unfold outOk at h1
 simp only [Bool.and_eq_true] at h1
 refine ⟨h1.1, h1.2.1, h1.2.2.1, ?_⟩
 have h2 := h1.2.2.2
 split at h2
 · rename_i q; exact .inl ⟨q, h2⟩
 · rename_i q; exact .inr ⟨q, List.isEmpty_iff.1 h2⟩
theorem ok_body {l : List Nd} {k : Nat} (h : bodyOk l k = true) : 1 ≤ l.length ∧ l.length ≤ 32 ∧ ∀ (j : Nat) (hj : j < l.length), base l[j] j = true ∧ fnOk l[j] = true ∧ numOk l[j] (k : Int) = true ∧ l[j].body = [] := by
 unfold bodyOk at h
 simp only [Bool.and_eq_true, decide_eq_true_eq] at h
 refine ⟨h.1, h.2.1, fun j hj => ?_⟩
 have h3 := each_all h.2.2 j hj
 rw [Nat.zero_add] at h3
 unfold inOk at h3
 simp only [Bool.and_eq_true] at h3
 exact ⟨h3.1, h3.2.1, h3.2.2.1, List.isEmpty_iff.1 h3.2.2.2⟩
theorem ok_one {n : Nd} {i : Nat} {loop : Int} (hi : i ≤ 1000) (hl : loop ≤ 1000) (h1 : base n i = true) (h2 : fnOk n = true) (h3 : numOk n loop = true) :
 okI n.op ∧ okI n.kind ∧ okI n.fa ∧ okI n.a ∧ n.ins.length ≤ 2 ∧ ∀ x ∈ n.ins, okI x := by
 obtain ⟨a1, a2, a3, a4⟩ := ok_base h1
 exact ⟨by unfold okI; omega, (ok_fn h2).1, (ok_fn h2).2, ok_num h3 hl, a3, fun x hx => by have := a4 x hx; unfold okI; omega⟩
theorem gOk_fit {l : List Nd} {out : Int} (h : gOk (l, out) = true) : Fit 2 l ∧ okI out := by
 have hp := gOk_parts h
 refine ⟨⟨hp.2.1, fun n hn => ?_⟩, by unfold okI; omega⟩
 obtain ⟨k, hk, rfl⟩ := List.getElem_of_mem hn
 obtain ⟨b1, b2, b3, b4⟩ := ok_top h hk
 refine ⟨ok_one (by omega) (by omega) b1 b2 b3, ?_⟩
 rcases b4 with ⟨h9, hb⟩ | ⟨h9, hb⟩
 · obtain ⟨c1, c2, c3⟩ := ok_body hb
   refine ⟨c2, fun m hm => ?_⟩
   obtain ⟨j, hj, rfl⟩ := List.getElem_of_mem hm
   obtain ⟨d1, d2, d3, d4⟩ := c3 j hj
   exact ⟨ok_one (by omega) (by omega) d1 d2 d3, d4⟩
 · rw [hb]
   exact ⟨by simp, fun m hm => by simp at hm⟩
theorem gOk_sm {l : List Nd} {out : Int} (h : gOk (l, out) = true) : Sm 2 l := by
 have hf := (gOk_fit h).1
 refine ⟨by have := hf.1; omega, fun n hn => ⟨by have := (hf.2 n hn).1.2.2.2.2.1; omega, ?_⟩⟩
 have h2 := (hf.2 n hn).2
 exact ⟨by have := h2.1; omega, fun m hm => ⟨by have := (h2.2 m hm).1.2.2.2.2.1; omega, (h2.2 m hm).2⟩⟩
theorem Sm.up : ∀ {k : Nat} {l : List Nd}, Sm k l → Sm (k + 1) l
 | 0, l, h => by cases h; exact Sm.nil 1
 | k + 1, l, h => ⟨h.1, fun n hn => ⟨(h.2 n hn).1, Sm.up (h.2 n hn).2⟩⟩
end Go.Ox.Gr
namespace Go.Ox.Gr
theorem fit_hdr {n : Nd} (h : okI n.op ∧ okI n.kind ∧ okI n.fa ∧ okI n.a ∧ n.ins.length ≤ 2 ∧ ∀ x ∈ n.ins, okI x) : (hdrL n).length ≤ 63 := by
 obtain ⟨h1, h2, h3, h4, h5, h6⟩ := h
 have a1 := numsL_len [n.op, (n.ins.length : Int)] (by intro x hx; simp at hx; rcases hx with rfl | rfl; exact h1; omega)
 have a2 := numsL_len n.ins h6
 have a3 := numsL_len [n.kind, n.fa, n.a] (by intro x hx; simp at hx; rcases hx with rfl | rfl | rfl; exact h2; exact h3; exact h4)
 unfold hdrL
 rw [List.length_append, List.length_append]
 simp only [List.length_cons, List.length_nil] at a1 a3
 omega
theorem fit_step {d C : Nat} {l : List Nd} (h : Fit (d + 1) l) (hb : ∀ l, Fit d l → (ndsL d l).length ≤ C) : (ndsL (d + 1) l).length ≤ 9 + 32 * (63 + C) := by
 have h0 := put_le9 (n := l.length) (by have := h.1; omega)
 have h1 := flat_le (fun n => hdrL n ++ ndsL d n.body) (63 + C) l (fun n hn => by
  have a := fit_hdr (h.2 n hn).1
  have b := hb _ (h.2 n hn).2
  rw [List.length_append]; omega)
 have h3 : l.length * (63 + C) ≤ 32 * (63 + C) := Nat.mul_le_mul_right _ h.1
 unfold ndsL
 rw [List.length_append]
 omega
theorem grL_len {l : List Nd} {out : Int} (h : Fit 2 l) (ho : okI out) : (grL (l, out)).length ≤ 1000000 := by
 have h2 : (ndsL 2 l).length ≤ 9 + 32 * (63 + (9 + 32 * (63 + 9))) := fit_step (C := 9 + 32 * (63 + 9)) h (fun l h1 => fit_step (C := 9) h1 (fun l h0 => by
  obtain rfl : l = [] := h0
  exact put_le9 (by simp)))
 have h3 := put_le9 (n := out.toNat) (by have := ho.1; have := ho.2; omega)
 unfold grL
 rw [List.length_append]
 dsimp only
 omega
end Go.Ox.Gr
namespace Go.Ox.Mom
abbrev M := Int × Int
def ok (m : M) : Bool := decide (0 ≤ m.1) && decide (m.1 < 65536) && (decide (0 ≤ m.2) && decide (m.2 < 65536))
def ahead (a b : M) : Bool := decide (a.1 ≤ b.1) && decide (a.2 ≤ b.2)
def cmp (a b : M) : Int := if a.1 < b.1 then -1 else if b.1 < a.1 then 1 else if a.2 < b.2 then -1 else if b.2 < a.2 then 1 else 0
def covers (f : List M) (m : M) : Bool := f.any fun x => ahead x m
def lt (a b : M) : Prop := a.1 < b.1 ∨ (a.1 = b.1 ∧ a.2 < b.2)
theorem lt_irrefl (a : M) : ¬ lt a a := by unfold lt; omega
theorem lt_trans {a b c : M} (h : lt a b) (k : lt b c) : lt a c := by unfold lt at *; omega
theorem lt_conn (a b : M) : lt a b ∨ a = b ∨ lt b a := by
 obtain ⟨a1, a2⟩ := a
 obtain ⟨b1, b2⟩ := b
 unfold lt
 simp only [Prod.mk.injEq]
 omega
theorem cmp_lt {a b : M} : cmp a b < 0 ↔ lt a b := by
 unfold cmp lt
 split
 · simp_all
 · split
   · simp; omega
   · split
     · simp; omega
     · split <;> simp <;> omega
theorem cmp_flip (a b : M) : cmp b a = - cmp a b := by
 unfold cmp
 repeat' split
 all_goals omega
theorem ahead_refl (a : M) : ahead a a = true := by unfold ahead; simp
theorem covers_iff {f : List M} {m : M} : covers f m = true ↔ ∃ x ∈ f, ahead x m = true := by unfold covers; simp
def step (out : List M) (m : M) : List M := if covers out m = true then out else out ++ [m]
structure Good (pre out : List M) : Prop where
 cov : ∀ k ∈ pre, covers out k = true
 sub : ∀ k ∈ out, k ∈ pre
 asc : out.Pairwise lt
 anti : out.Pairwise fun a b => ahead a b = false
theorem Good.step {pre out : List M} {m : M} (h : Good pre out) (hm : ∀ k ∈ pre, ¬ lt m k) : Good (pre ++ [m]) (step out m) := by
 unfold Mom.step
 split
 · rename_i hc
   refine ⟨fun k hk => ?_, fun k hk => List.mem_append_left _ (h.sub k hk), h.asc, h.anti⟩
   rcases List.mem_append.1 hk with hk | hk
   · exact h.cov k hk
   · rw [List.mem_singleton.1 hk]; exact hc
 · rename_i hc
   have hno : ∀ x ∈ out, ahead x m = false := fun x hx => by
    cases hq : ahead x m with
    | false => rfl
    | true => exact absurd (covers_iff.2 ⟨x, hx, hq⟩) hc
   refine ⟨fun k hk => ?_, fun k hk => ?_, ?_, ?_⟩
   · rcases List.mem_append.1 hk with hk | hk
     · obtain ⟨x, hx, hq⟩ := covers_iff.1 (h.cov k hk)
       exact covers_iff.2 ⟨x, List.mem_append_left _ hx, hq⟩
     · rw [List.mem_singleton.1 hk]
       exact covers_iff.2 ⟨m, by simp, ahead_refl m⟩
   · rcases List.mem_append.1 hk with hk | hk
     · exact List.mem_append_left _ (h.sub k hk)
     · exact List.mem_append_right _ hk
   · refine List.pairwise_append.2 ⟨h.asc, by simp, fun a ha b hb => ?_⟩
     rw [List.mem_singleton.1 hb]
     rcases lt_conn a m with h1 | h1 | h1
     · exact h1
     · exfalso
       have := hno a ha
       rw [h1, ahead_refl] at this
       cases this
     · exact absurd h1 (hm a (h.sub a ha))
   · refine List.pairwise_append.2 ⟨h.anti, by simp, fun a ha b hb => ?_⟩
     rw [List.mem_singleton.1 hb]
     exact hno a ha
def place (out : List M) (m : M) : Nat := (out.takeWhile fun x => decide (cmp x m < 0)).length
def ins (out : List M) (m : M) : List M :=
 if out[place out m]? = some m then out else out.take (place out m) ++ m :: out.drop (place out m)
end Go.Ox.Mom
namespace Go.Ox.Rec
open Go.Ox
abbrev R := Int × Int
def ok (r : R) : Bool := decide (0 ≤ r.1) && decide (r.1 < 1048576) && (decide (0 ≤ r.2) && decide (r.2 < 1048576))
def may (l : List R) : Int := if (l.any fun x => !ok x) = true then 30 else if 4096 < l.length then 31 else 0
theorem not_lt_trans {a b c : R} (h : ¬ Mom.lt b a) (k : ¬ Mom.lt c b) : ¬ Mom.lt c a := by unfold Mom.lt at *; omega
theorem antisymm {a b : R} (h : ¬ Mom.lt a b) (k : ¬ Mom.lt b a) : a = b := by
 rcases Mom.lt_conn a b with q | q | q
 · exact absurd q h
 · exact q
 · exact absurd q k
instance decLt (a b : R) : Decidable (Mom.lt a b) := by unfold Mom.lt; infer_instance
def Asc (l : List R) : Prop := l.Pairwise fun a b => ¬ Mom.lt b a
theorem asc_one : ∀ {a b : List R}, Asc a → Asc b → a.Perm b → a = b
 | [], b, _, _, h => by rw [h.nil_eq]
 | x :: a, [], _, _, h => by have := h.length_eq; simp at this
 | x :: a, y :: b, ha, hb, h => by
  have ha' := List.pairwise_cons.1 ha
  have hb' := List.pairwise_cons.1 hb
  have e : x = y := by
   rcases List.mem_cons.1 (h.mem_iff.1 (List.mem_cons_self ..)) with r | r
   · exact r
   · rcases List.mem_cons.1 (h.mem_iff.2 (List.mem_cons_self ..)) with q | q
     · exact q.symm
     · exact antisymm (hb'.1 x r) (ha'.1 y q)
  subst e
  rw [asc_one (a := a) (b := b) ha'.2 hb'.2 (List.Perm.cons_inv h)]
def srt (l : List R) : List R := l.mergeSort fun a b => decide (¬ Mom.lt b a)
theorem srt_perm (l : List R) : (srt l).Perm l := List.mergeSort_perm l _
theorem srt_asc (l : List R) : Asc (srt l) := by
 have h := List.pairwise_mergeSort (le := fun a b : R => decide (¬ Mom.lt b a)) (fun a b c h1 h2 => by
  simp only [decide_eq_true_eq] at *
  exact not_lt_trans h1 h2) (fun a b => by
  simp only [Bool.or_eq_true, decide_eq_true_eq]
  unfold Mom.lt; omega) l
 exact h.imp fun h => by simpa using h
theorem srt_is {s l : List R} (h : Asc s) (hp : s.Perm l) : s = srt l := asc_one h (srt_asc l) (hp.trans (srt_perm l).symm)
theorem srt_len (l : List R) : (srt l).length = l.length := (srt_perm l).length_eq
theorem srt_short {l : List R} (h : l.length < 2) : srt l = l := by
 refine (srt_is ?_ (List.Perm.refl l)).symm
 match l, h with
 | [], _ => exact List.Pairwise.nil
 | [x], _ => exact List.pairwise_singleton _ _
structure Mer (a b : List R) (i j : Nat) (out : List R) : Prop where
 perm : out.Perm (a.take i ++ b.take j)
 asc : Asc out
 low : ∀ x ∈ out, ∀ y ∈ a.drop i ++ b.drop j, ¬ Mom.lt y x
theorem Mer.start (a b : List R) : Mer a b 0 0 [] := ⟨by simp, List.Pairwise.nil, by simp⟩
theorem Mer.left {a b : List R} {i j : Nat} {out : List R} (h : Mer a b i j out) (ha : Asc a) (hb : Asc b) (hi : i < a.length) (hq : ∀ hj : j < b.length, ¬ Mom.lt b[j] a[i]) : Mer a b (i + 1) j (out ++ [a[i]]) := by
 have hda : a.drop i = a[i] :: a.drop (i + 1) := List.drop_eq_getElem_cons hi
 refine ⟨?_, ?_, ?_⟩
 · rw [List.take_succ_eq_append_getElem hi, List.append_assoc]
   refine (h.perm.append_right _).trans ?_
   rw [List.append_assoc]
   exact (List.perm_append_comm).append_left _
 · refine List.pairwise_append.2 ⟨h.asc, List.pairwise_singleton _ _, fun x hx y hy => ?_⟩
   rw [List.mem_singleton.1 hy]
   exact h.low x hx _ (by rw [hda]; exact List.mem_append_left _ (List.mem_cons_self ..))
 · intro x hx y hy
   rcases List.mem_append.1 hx with hx | hx
   · refine h.low x hx y ?_
     rcases List.mem_append.1 hy with hy | hy
     · rw [hda]; exact List.mem_append_left _ (List.mem_cons_of_mem _ hy)
     · exact List.mem_append_right _ hy
   · rw [List.mem_singleton.1 hx]
     rcases List.mem_append.1 hy with hy | hy
     · have hp : (a[i] :: a.drop (i + 1)).Pairwise fun a b => ¬ Mom.lt b a := by rw [← hda]; exact List.Pairwise.sublist (List.drop_sublist _ _) ha
       exact (List.pairwise_cons.1 hp).1 y hy
     · rcases Nat.lt_or_ge j b.length with hj | hj
       · have hdb : b.drop j = b[j] :: b.drop (j + 1) := List.drop_eq_getElem_cons hj
         rw [hdb] at hy
         rcases List.mem_cons.1 hy with rfl | hy
         · exact hq hj
         · have hp : (b[j] :: b.drop (j + 1)).Pairwise fun a b => ¬ Mom.lt b a := by rw [← hdb]; exact List.Pairwise.sublist (List.drop_sublist _ _) hb
           exact not_lt_trans (hq hj) ((List.pairwise_cons.1 hp).1 y hy)
       · rw [List.drop_eq_nil_of_le hj] at hy; simp at hy
theorem Mer.right {a b : List R} {i j : Nat} {out : List R} (h : Mer a b i j out) (ha : Asc a) (hb : Asc b) (hj : j < b.length) (hq : ∀ hi : i < a.length, Mom.lt b[j] a[i]) : Mer a b i (j + 1) (out ++ [b[j]]) := by
 have hdb : b.drop j = b[j] :: b.drop (j + 1) := List.drop_eq_getElem_cons hj
 have hlt : ∀ {x y : R}, Mom.lt x y → ¬ Mom.lt y x := fun h k => Mom.lt_irrefl _ (Mom.lt_trans h k)
 refine ⟨?_, ?_, ?_⟩
 · rw [List.take_succ_eq_append_getElem hj, ← List.append_assoc]
   exact h.perm.append_right _
 · refine List.pairwise_append.2 ⟨h.asc, List.pairwise_singleton _ _, fun x hx y hy => ?_⟩
   rw [List.mem_singleton.1 hy]
   exact h.low x hx _ (by rw [hdb]; exact List.mem_append_right _ (List.mem_cons_self ..))
 · intro x hx y hy
   rcases List.mem_append.1 hx with hx | hx
   · refine h.low x hx y ?_
     rcases List.mem_append.1 hy with hy | hy
     · exact List.mem_append_left _ hy
     · rw [hdb]; exact List.mem_append_right _ (List.mem_cons_of_mem _ hy)
   · rw [List.mem_singleton.1 hx]
     rcases List.mem_append.1 hy with hy | hy
     · rcases Nat.lt_or_ge i a.length with hi | hi
       · have hda : a.drop i = a[i] :: a.drop (i + 1) := List.drop_eq_getElem_cons hi
         rw [hda] at hy
         rcases List.mem_cons.1 hy with rfl | hy
         · exact hlt (hq hi)
         · have hp : (a[i] :: a.drop (i + 1)).Pairwise fun a b => ¬ Mom.lt b a := by rw [← hda]; exact List.Pairwise.sublist (List.drop_sublist _ _) ha
           exact not_lt_trans (hlt (hq hi)) ((List.pairwise_cons.1 hp).1 y hy)
       · rw [List.drop_eq_nil_of_le hi] at hy; simp at hy
     · have hp : (b[j] :: b.drop (j + 1)).Pairwise fun a b => ¬ Mom.lt b a := by rw [← hdb]; exact List.Pairwise.sublist (List.drop_sublist _ _) hb
       exact (List.pairwise_cons.1 hp).1 y hy
theorem Mer.done {a b : List R} {out : List R} (h : Mer a b a.length b.length out) {l : List R} (hp : (a ++ b).Perm l) : out = srt l := by
 refine srt_is h.asc (h.perm.trans ?_)
 rw [List.take_length, List.take_length]
 exact hp
end Go.Ox.Rec
namespace Go.Ox.Rec
open Go.Ox
end Go.Ox.Rec
namespace Go.Ox.Rec
open Go.Ox Go.Op
def recL (r : R) : List UInt8 := Num.put r.1.toNat ++ Num.put r.2.toNat
theorem ok_bd {r : R} (h : ok r = true) : 0 ≤ r.1 ∧ r.1 < 1048576 ∧ 0 ≤ r.2 ∧ r.2 < 1048576 := by
 unfold ok at h; simp at h; omega
theorem put_le8 {n : Nat} (h : n < 1048576) : 1 ≤ (Num.put n).length ∧ (Num.put n).length ≤ 4 := by
 have h1 := Num.put_le n
 have h2 := (Num.width_le 3 n (by omega)).2 (by omega)
 have h3 := Num.put_len n
 have h4 := Num.width_pos n
 refine ⟨?_, by omega⟩
 rw [h3]; split
 · omega
 · split <;> omega
theorem recL_len {r : R} (h : ok r = true) : (recL r).length ≤ 8 := by
 have hb := ok_bd h
 have h1 := put_le8 (n := r.1.toNat) (by omega)
 have h2 := put_le8 (n := r.2.toNat) (by omega)
 unfold recL; rw [List.length_append]; omega
def encL (l : List R) : List UInt8 := Num.put l.length ++ (srt l).flatMap recL
theorem flatMap_snoc {α β : Type} (f : α → List β) (l : List α) {k : Nat} (h : k < l.length) : (l.take (k + 1)).flatMap f = (l.take k).flatMap f ++ f l[k] := by
 rw [List.take_succ_eq_append_getElem h, List.flatMap_append]; simp
theorem flat_len : ∀ (l : List R), (∀ x ∈ l, ok x = true) → (l.flatMap recL).length ≤ 8 * l.length
 | [], _ => by simp
 | x :: l, h => by
  have h1 := recL_len (h x (List.mem_cons_self ..))
  have h2 := flat_len l fun y hy => h y (List.mem_cons_of_mem _ hy)
  rw [List.flatMap_cons, List.length_append, List.length_cons]; omega
theorem may_ok {l : List R} (h : may l = 0) : (∀ x ∈ l, ok x = true) ∧ l.length ≤ 4096 := by
 unfold may at h
 split at h
 · cases h
 · rename_i h1
   split at h
   · cases h
   · refine ⟨fun x hx => ?_, by omega⟩
     simp only [List.any_eq_true, Bool.not_eq_true', not_exists, not_and] at h1
     have := h1 x hx
     simpa using this
theorem may_of {l : List R} (h : ∀ x ∈ l, ok x = true) (hl : l.length ≤ 4096) : may l = 0 := by
 unfold may
 rw [if_neg, if_neg (by omega)]
 intro q
 obtain ⟨x, hx, he⟩ := List.any_eq_true.1 q
 rw [h x hx] at he; cases he
theorem srt_ok {l : List R} (h : ∀ x ∈ l, ok x = true) : ∀ x ∈ srt l, ok x = true := fun x hx => h x ((srt_perm l).mem_iff.1 hx)
def readM (s : Num.St) : R := (((Num.numP s).2 : Nat), ((Num.numP (Num.numP s).1).2 : Nat))
def readS (s : Num.St) : Num.St := (Num.numP (Num.numP s).1).1
def readE (s : Num.St) : Int := if (readS s).bad = true then 10 else if ok (readM s) = true then 0 else 30
def readV (s : Num.St) : R := if (readS s).bad = true then (0, 0) else if ok (readM s) = true then readM s else (0, 0)
theorem readS_len (s : Num.St) : (readS s).l.length ≤ s.l.length := Nat.le_trans (Num.numP_len _) (Num.numP_len _)
theorem read_app {r : R} (h : ok r = true) (t : List UInt8) : readS ⟨recL r ++ t, false⟩ = ⟨t, false⟩ ∧ readV ⟨recL r ++ t, false⟩ = r ∧ readE ⟨recL r ++ t, false⟩ = 0 := by
 have hb := ok_bd h
 have e : recL r ++ t = Num.put r.1.toNat ++ (Num.put r.2.toNat ++ t) := by unfold recL; simp
 have n1 := Num.numP_put (n := r.1.toNat) (by omega) (Num.put r.2.toNat ++ t)
 have n2 := Num.numP_put (n := r.2.toNat) (by omega) t
 have hm : readM ⟨recL r ++ t, false⟩ = r := by
  unfold readM
  rw [e, n1]; simp only
  rw [n2]; simp only
  rw [Int.toNat_of_nonneg (by omega), Int.toNat_of_nonneg (by omega)]
 have hs : readS ⟨recL r ++ t, false⟩ = ⟨t, false⟩ := by
  unfold readS
  rw [e, n1]; simp only
  rw [n2]
 unfold readV readE
 rw [hs, hm, h]
 exact ⟨rfl, rfl, rfl⟩
theorem read_canon {s : Num.St} (h : readE s = 0) : s.bad = false ∧ (readS s).bad = false ∧ ok (readV s) = true ∧ s.l = recL (readV s) ++ (readS s).l := by
 have hb : (readS s).bad = false := by
  cases q : (readS s).bad with
  | false => rfl
  | true => unfold readE at h; rw [if_pos q] at h; cases h
 have hk : ok (readM s) = true := by
  cases q : ok (readM s) with
  | true => rfl
  | false => unfold readE at h; rw [hb, q] at h; cases h
 have hv : readV s = readM s := by unfold readV; rw [hb, hk]; rfl
 have hbd := ok_bd hk
 unfold readS at hb
 obtain ⟨a1, a2, _⟩ := Num.numP_canon (s := (Num.numP s).1) (t := (Num.numP (Num.numP s).1).1) (n := (Num.numP (Num.numP s).1).2) rfl hb
 obtain ⟨b1, b2, _⟩ := Num.numP_canon (s := s) (t := (Num.numP s).1) (n := (Num.numP s).2) rfl a1
 refine ⟨b1, hb, by rw [hv]; exact hk, ?_⟩
 rw [hv, b2, a2]
 unfold recL readM readS
 simp
def stI (s : Num.St) : Nat → Num.St
 | 0 => s
 | i + 1 => readS (stI s i)
def outI (s : Num.St) : Nat → List R
 | 0 => []
 | i + 1 => outI s i ++ [readV (stI s i)]
theorem outI_len (s : Num.St) : ∀ i, (outI s i).length = i
 | 0 => rfl
 | i + 1 => by unfold outI; rw [List.length_append, outI_len s i]; rfl
theorem stI_len (s : Num.St) : ∀ i, (stI s i).l.length ≤ s.l.length
 | 0 => Nat.le_refl _
 | i + 1 => Nat.le_trans (readS_len _) (stI_len s i)
def OkI (s : Num.St) (n : Nat) : Prop := ∀ i < n, readE (stI s i) = 0
theorem OkI.snoc {s : Num.St} {n : Nat} (h : OkI s n) (he : readE (stI s n) = 0) : OkI s (n + 1) := fun i hi => by
 by_cases q : i < n
 · exact h i q
 · have : i = n := by omega
   rw [this]; exact he
theorem OkI.good {s : Num.St} {n : Nat} (h : OkI s n) (hs : s.bad = false) : (stI s n).bad = false := by
 cases n with
 | zero => exact hs
 | succ n => exact (read_canon (h n (Nat.lt_succ_self _))).2.1
theorem OkI.canon {s : Num.St} : ∀ {n : Nat}, OkI s n → s.l = (outI s n).flatMap recL ++ (stI s n).l ∧ ∀ x ∈ outI s n, ok x = true
 | 0, _ => ⟨by simp [outI, stI], fun x hx => by cases hx⟩
 | n + 1, h => by
  obtain ⟨e1, e2⟩ := OkI.canon (n := n) fun i hi => h i (Nat.lt_succ_of_lt hi)
  obtain ⟨_, _, c3, c4⟩ := read_canon (h n (Nat.lt_succ_self _))
  refine ⟨?_, fun x hx => ?_⟩
  · rw [show outI s (n + 1) = outI s n ++ [readV (stI s n)] from rfl, show stI s (n + 1) = readS (stI s n) from rfl, List.flatMap_append, List.append_assoc]
    simp only [List.flatMap_cons, List.flatMap_nil, List.append_nil]
    rw [← c4]; exact e1
  · unfold outI at hx
    rcases List.mem_append.1 hx with q | q
    · exact e2 x q
    · rw [List.mem_singleton.1 q]; exact c3
theorem stI_app (l : List R) (h : ∀ x ∈ l, ok x = true) : ∀ i, i ≤ l.length → stI ⟨l.flatMap recL, false⟩ i = ⟨(l.drop i).flatMap recL, false⟩ ∧ outI ⟨l.flatMap recL, false⟩ i = l.take i ∧ OkI ⟨l.flatMap recL, false⟩ i
 | 0, _ => ⟨by simp [stI], by simp [outI], fun i hi => absurd hi (Nat.not_lt_zero _)⟩
 | i + 1, hi => by
  obtain ⟨e1, e2, e3⟩ := stI_app l h i (by omega)
  have hd : (l.drop i).flatMap recL = recL l[i] ++ (l.drop (i + 1)).flatMap recL := by rw [List.drop_eq_getElem_cons (show i < l.length by omega), List.flatMap_cons]
  have hk := read_app (h l[i] (List.getElem_mem _)) ((l.drop (i + 1)).flatMap recL)
  rw [← hd, ← e1] at hk
  refine ⟨by unfold stI; exact hk.1, ?_, e3.snoc hk.2.2⟩
  unfold outI
  rw [hk.2.1, e2, List.take_succ_eq_append_getElem (by omega)]
structure Dec (b : List UInt8) (l : List R) : Prop where
 ex : ∃ (t : Num.St) (n : Nat), Num.numP ⟨b, false⟩ = (t, n) ∧ t.bad = false ∧ n ≤ 4096 ∧ OkI t n ∧ (stI t n).l = [] ∧ outI t n = l ∧ Asc l
theorem Dec.one {b : List UInt8} {l r : List R} (h : Dec b l) (k : Dec b r) : l = r := by
 obtain ⟨t, n, a1, _, _, _, _, a6, _⟩ := h.ex
 obtain ⟨u, m, b1, _, _, _, _, b6, _⟩ := k.ex
 rw [a1] at b1
 injection b1 with e1 e2
 rw [← a6, ← b6, e1, e2]
open Classical in
noncomputable def decL (b : List UInt8) : List R := if h : ∃ l, Dec b l then Classical.choose h else []
open Classical in
noncomputable def decE (b : List UInt8) : Int := if ∃ l, Dec b l then 0 else 10
theorem dec_yes {b : List UInt8} {l : List R} (h : Dec b l) : decL b = l ∧ decE b = 0 := by
 have hx : ∃ l, Dec b l := ⟨l, h⟩
 unfold decL decE
 rw [dif_pos hx, if_pos hx]
 exact ⟨(Classical.choose_spec hx).one h, rfl⟩
theorem dec_no {b : List UInt8} (h : ∀ l, ¬ Dec b l) : decL b = [] ∧ decE b = 10 := by
 have hx : ¬ ∃ l, Dec b l := fun ⟨l, q⟩ => h l q
 unfold decL decE
 rw [dif_neg hx, if_neg hx]
 exact ⟨rfl, rfl⟩
theorem dec_bad {b : List UInt8} {t : Num.St} {n : Nat} (h : Num.numP ⟨b, false⟩ = (t, n)) (hb : t.bad = true ∨ 4096 < n) : decL b = [] ∧ decE b = 10 := dec_no fun l hl => by
 obtain ⟨u, m, a1, a2, a3, _⟩ := hl.ex
 rw [h] at a1
 injection a1 with e1 e2
 subst e1 e2
 rcases hb with q | q
 · rw [a2] at q; cases q
 · omega
theorem dec_part {b : List UInt8} {t : Num.St} {n k : Nat} (h : Num.numP ⟨b, false⟩ = (t, n)) (hk : k < n) (he : readE (stI t k) ≠ 0) : decL b = [] ∧ decE b = 10 := dec_no fun l hl => by
 obtain ⟨u, m, a1, _, _, a4, _⟩ := hl.ex
 rw [h] at a1
 injection a1 with e1 e2
 subst e1 e2
 exact he (a4 k hk)
theorem dec_rest {b : List UInt8} {t : Num.St} {n : Nat} (h : Num.numP ⟨b, false⟩ = (t, n)) (he : (stI t n).l ≠ [] ∨ ¬ Asc (outI t n)) : decL b = [] ∧ decE b = 10 := dec_no fun l hl => by
 obtain ⟨u, m, a1, _, _, _, a5, a6, a7⟩ := hl.ex
 rw [h] at a1
 injection a1 with e1 e2
 subst e1 e2
 rcases he with q | q
 · exact q a5
 · rw [a6] at q; exact q a7
theorem dec_done {b : List UInt8} {t : Num.St} {n : Nat} (h : Num.numP ⟨b, false⟩ = (t, n)) (hb : t.bad = false) (hn : n ≤ 4096) (hk : OkI t n) (he : (stI t n).l = []) (ha : Asc (outI t n)) : decL b = outI t n ∧ decE b = 0 :=
 dec_yes ⟨⟨t, n, h, hb, hn, hk, he, rfl, ha⟩⟩
theorem Dec.back {b : List UInt8} {l : List R} (h : Dec b l) : may l = 0 ∧ srt l = l ∧ encL l = b := by
 obtain ⟨t, n, a1, a2, a3, a4, a5, a6, a7⟩ := h.ex
 obtain ⟨c1, c2, c3⟩ := Num.numP_canon a1 a2
 obtain ⟨d1, d2⟩ := a4.canon
 have hn : l.length = n := by rw [← a6]; exact outI_len t n
 rw [a6] at d1 d2
 have hs : srt l = l := (srt_is a7 (List.Perm.refl _)).symm
 refine ⟨may_of d2 (by omega), hs, ?_⟩
 unfold encL
 rw [hs, hn]
 simp only at c2
 rw [c2, d1, a5, List.append_nil]
theorem enc_dec {l : List R} (h : may l = 0) : Dec (encL l) (srt l) := by
 obtain ⟨h1, h2⟩ := may_ok h
 have hl := srt_len l
 obtain ⟨e1, e2, e3⟩ := stI_app (srt l) (srt_ok h1) (srt l).length (Nat.le_refl _)
 refine ⟨⟨⟨(srt l).flatMap recL, false⟩, l.length, Num.numP_put (by omega) _, rfl, h2, ?_⟩⟩
 rw [← hl]
 refine ⟨e3, by rw [e1]; simp, by rw [e2]; simp, srt_asc l⟩
theorem enc_len {l : List R} (h : may l = 0) : (encL l).length ≤ 8 * l.length + 9 := by
 obtain ⟨h1, h2⟩ := may_ok h
 have h3 := put_le8 (n := l.length) (by omega)
 have h4 := flat_len (srt l) (srt_ok h1)
 rw [srt_len] at h4
 unfold encL; rw [List.length_append]; omega
end Go.Ox.Rec
