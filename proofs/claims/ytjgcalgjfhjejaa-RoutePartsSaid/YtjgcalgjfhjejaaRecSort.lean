/-
  Records in order: slices.SortFunc at records; rec.Sort.
-/
import Derived.Test.YtjgcalgjfhjejaaRecFn
namespace Go.Proofs.Ytjgcalgjfhjejaa
open Go.RowKit Go.Ox Go.Shelf
attribute [local irreducible] OP RP
set_option linter.unusedVariables false

theorem ltM (x y : Mom.M) : Go.Proofs.ltOf Mom.cmp x y = true ↔ Mom.lt x y := by
  unfold Go.Proofs.ltOf
  simp only [decide_eq_true_eq]
  exact Mom.cmp_lt
theorem ltM_f (x y : Mom.M) : Go.Proofs.ltOf Mom.cmp x y = false ↔ ¬ Mom.lt x y := by
  rw [← ltM, Bool.not_eq_true]
theorem swoM : Go.Sort.SWO (Go.Proofs.ltOf Mom.cmp) where
  irrefl x := by rw [ltM_f]; exact Mom.lt_irrefl x
  trans x y z h1 h2 := by rw [ltM] at *; exact Mom.lt_trans h1 h2
  ntrans x y z h1 h2 := by
    rw [ltM_f] at *
    intro h3
    rcases Mom.lt_conn x y with h | h | h
    · exact h1 h
    · subst h; exact h2 h3
    · rcases Mom.lt_conn y z with k | k | k
      · exact h2 k
      · subst k; exact h1 h3
      · exact Mom.lt_irrefl _ (Mom.lt_trans h3 (Mom.lt_trans k h))
theorem cmpLaysM (blk off size : Nat) (w : World) : Go.Proofs.CmpLays Try.prog 34 #[] encM 2 Mom.cmp blk off size w :=
  fun _ _ _ _ x y => compare_grown x y _
unseal OP in
theorem pV_enc (l : List Mom.M) : pV l = l.flatMap encM := rfl
theorem sortM_any (v : Value) (l : List Mom.M) (base : Nat) (w : World) (ho : OP 42 base w v l) (hl : l.length ≤ 1000000000) :
    Calls Try.prog 33 #[v, .func (.func 34) #[] #[]] w fun e w' =>
      e = .returned (.tuple #[]) ∧ ∃ s : List Mom.M, s.Perm l ∧ s.Pairwise (fun a b => ¬ Mom.lt b a) ∧ OP 42 base w' v s ∧ w.grownBy w' v.ownBlock := by
  rcases ho.own.2 with ⟨rfl, h0⟩ | ⟨g, cap, cur, rfl, hb, _⟩
  · obtain rfl := List.eq_nil_of_length_eq_zero h0
    refine (AnyF.slices_SortFunc_none Try.sortM none 0 _ w).mono ?_
    rintro e w' ⟨h1, rfl⟩
    exact ⟨h1, [], List.Perm.refl _, List.Pairwise.nil, OP.nilS _ _ _, World.grownBy.refl _ _⟩
  · have eg : ∀ args w, (callFunc 34 args).run Try.prog w = .ok (.enter 34 args) w := enters_of Try.func34 (by kernel_rfl) rfl
    have hH := holdsK_of_own (enc := encM) (fun _ => rfl) (by omega) ho.own
    have hcon := AnyQ.slices_SortFunc Try.sortM 2 Try.isAgg42 Try.sizeOf42 encM (fun _ => rfl) (fun x u hu => by simp at hu; rcases hu with rfl | rfl <;> rfl) Mom.cmp swoM 34 #[] g 0 cap l.toArray w eg
      (cmpLaysM g 0 _ w) hH (ho.own.lt g rfl).2 (by simp; omega)
    refine hcon.mono ?_
    rintro e w' ⟨h1, d', n, os, hp, hs, hw⟩
    have hsz : d'.size = l.length := by have := hp.1; simpa using this
    obtain ⟨q1, q2⟩ := own_sorted (enc := encM) (fun _ => rfl) (by omega) ho.own hsz hw
    refine ⟨h1, d'.toList, by simpa using perm_of hp, (sorted_of hs (by simpa using hsz)).imp (fun {a b} h => (ltM_f _ _).1 h), ?_, q2⟩
    unfold OP
    rw [pV_enc, show d'.toList.length = l.length by simpa using hsz]
    exact q1
set_option maxRecDepth 100000 in
set_option maxHeartbeats 400000 in
theorem sorted_any (v : Value) (l : List Rec.R) (w : World) (hv : RP w v l) (hl : l.length ≤ 1000000) :
    Calls Try.prog 27 #[v] w fun e w' => ∃ v', e = .returned v' ∧ OP 42 w.heap.size w' v' (Rec.srt l) ∧ Ext w w' := by
  have HV := Lib.hid hv
  obtain ⟨A, c, rfl⟩ := hv.form
  clear hv
  go_enter Try.func27, Try.ntmps27
  go_wp2_with fail
  refine (cloneM_any _ l w HV.out (by omega)).mono ?_
  rintro e w1 ⟨v1, rfl, ho1, he1⟩
  have HO1 := Lib.hid ho1
  obtain ⟨A1, c1, rfl⟩ := ho1.rp.form
  have HX1 := Lib.hid he1
  clear ho1 he1
  go_wp2_with fail
  refine (sortM_any _ l w.heap.size w1 HO1.out (by omega)).mono ?_
  rintro e w2 ⟨rfl, s, hp, hs, ho2, hg2⟩
  have hx2 : Ext w w2 := HX1.out.grown hg2 fun k hk => (HO1.out.own.lt k hk).1
  rw [Rec.srt_is (l := l) hs hp] at ho2
  go_wp2
  go_ret
  exact ⟨_, rfl, ho2, hx2⟩
set_option maxRecDepth 100000 in
set_option maxHeartbeats 400000 in
theorem sort_err (v : Value) (l : List Rec.R) (w : World) (hv : RP w v l) (hl : l.length ≤ 1000000) (hm : Rec.may l ≠ 0) :
    Calls Try.prog 19 #[v] w fun e w' => e = .returned (.tuple #[.slice none 0 0, .int .i64 (Rec.may l)]) ∧ Ext w w' := by
  have HM := Lib.hid (may_any v l w hv hl)
  obtain ⟨A, c, rfl⟩ := hv.form
  generalize Rec.may l = m at *
  have h1 : (m == 0) = false := by simpa using hm
  have h2 : (m != 0) = true := by simpa using hm
  clear hv hm
  go_enter Try.func19, Try.ntmps19
  go_wp2_with fail
  refine HM.out.mono ?_
  rintro e w1 ⟨rfl, he1⟩
  go_wp2
  go_ret2
  exact ⟨rfl, he1⟩
set_option maxRecDepth 100000 in
set_option maxHeartbeats 400000 in
theorem sort_ok (v : Value) (l : List Rec.R) (w : World) (hv : RP w v l) (hl : l.length ≤ 1000000) (hm : Rec.may l = 0) :
    Calls Try.prog 19 #[v] w fun e w' => ∃ v', e = .returned (.tuple #[v', .int .i64 0]) ∧ OP 42 w.heap.size w' v' (Rec.srt l) ∧ Ext w w' := by
  have HM := Lib.hid (may_any v l w hv hl)
  have HV := Lib.hid hv
  rw [hm] at HM
  obtain ⟨A, c, rfl⟩ := hv.form
  clear hv hm
  go_enter Try.func19, Try.ntmps19
  go_wp2_with fail
  refine HM.out.mono ?_
  rintro e w1 ⟨rfl, he1⟩
  have HX1 := Lib.hid he1
  clear he1
  go_wp2_with fail
  refine (sorted_any _ l w1 (HV.out.ext HX1.out) hl).mono ?_
  rintro e w2 ⟨v2, rfl, ho2, he2⟩
  go_wp2
  go_ret2
  exact ⟨_, rfl, ho2.low HX1.out.size, HX1.out.trans he2⟩
end Go.Proofs.Ytjgcalgjfhjejaa
