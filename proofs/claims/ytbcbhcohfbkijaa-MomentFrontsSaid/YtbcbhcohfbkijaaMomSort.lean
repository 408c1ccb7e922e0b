/-
  Moments in order: slices.SortFunc at moments.
-/
import Derived.Test.YtbcbhcohfbkijaaMomFn
namespace Go.Proofs.Ytbcbhcohfbkijaa
open Go.RowKit Go.Ox Go.Shelf

theorem ltM (x y : Mom.M) : Go.Proofs.ltOf Mom.cmp x y = true ↔ Mom.lt x y := by
  unfold Go.Proofs.ltOf
  simp only [decide_eq_true_eq]
  exact Mom.cmp_lt
theorem ltM_f (x y : Mom.M) : Go.Proofs.ltOf Mom.cmp x y = false ↔ ¬ Mom.lt x y := by
  rw [← ltM, Bool.not_eq_true]
theorem swoM : Go.Sort.SWO (Go.Proofs.ltOf Mom.cmp) where
  irrefl x := by rw [ltM_f]; exact Mom.lt_irrefl x
  trans x y z h1 h2 := by rw [ltM] at *; exact Mom.lt_trans h1 h2
  ntrans x y z h1 h2 := by
    rw [ltM_f] at *
    intro h3
    rcases Mom.lt_conn x y with h | h | h
    · exact h1 h
    · subst h; exact h2 h3
    · rcases Mom.lt_conn y z with k | k | k
      · exact h2 k
      · subst k; exact h1 h3
      · exact Mom.lt_irrefl _ (Mom.lt_trans h3 (Mom.lt_trans k h))
theorem cmpLaysM (blk off size : Nat) (w : World) : Go.Proofs.CmpLays Try.prog 16 #[] encM 2 Mom.cmp blk off size w :=
  fun _ _ _ _ x y => compare_grown x y _
theorem pV_enc (l : List Mom.M) : pV l = l.flatMap encM := rfl
theorem sortM_any (v : Value) (l : List Mom.M) (base : Nat) (w : World) (ho : OP 23 base w v l) (hl : l.length ≤ 1000000000) :
    Calls Try.prog 40 #[v, .func (.func 16) #[] #[]] w fun e w' =>
      e = .returned (.tuple #[]) ∧ ∃ s : List Mom.M, s.Perm l ∧ s.Pairwise (fun a b => ¬ Mom.lt b a) ∧ OP 23 base w' v s ∧ w.grownBy w' v.ownBlock := by
  rcases ho.own.2 with ⟨rfl, h0⟩ | ⟨g, cap, cur, rfl, hb, _⟩
  · obtain rfl := List.eq_nil_of_length_eq_zero h0
    refine (AnyF.slices_SortFunc_none Try.sortM none 0 _ w).mono ?_
    rintro e w' ⟨h1, rfl⟩
    exact ⟨h1, [], List.Perm.refl _, List.Pairwise.nil, OP.nilS _ _ _, World.grownBy.refl _ _⟩
  · have eg : ∀ args w, (callFunc 16 args).run Try.prog w = .ok (.enter 16 args) w := enters_of Try.func16 (by kernel_rfl) rfl
    have hH := holdsK_of_own (enc := encM) (fun _ => rfl) (by omega) ho.own
    have hcon := AnyQ.slices_SortFunc Try.sortM 2 Try.isAgg23 Try.sizeOf23 encM (fun _ => rfl) (fun x u hu => by simp at hu; rcases hu with rfl | rfl <;> rfl) Mom.cmp swoM 16 #[] g 0 cap l.toArray w eg
      (cmpLaysM g 0 _ w) hH (ho.own.lt g rfl).2 (by simp; omega)
    refine hcon.mono ?_
    rintro e w' ⟨h1, d', n, os, hp, hs, hw⟩
    have hsz : d'.size = l.length := by have := hp.1; simpa using this
    obtain ⟨q1, q2⟩ := own_sorted (enc := encM) (fun _ => rfl) (by omega) ho.own hsz hw
    refine ⟨h1, d'.toList, by simpa using perm_of hp, (sorted_of hs (by simpa using hsz)).imp (fun {a b} h => (ltM_f _ _).1 h), ?_, q2⟩
    unfold OP
    rw [pV_enc, show d'.toList.length = l.length by simpa using hsz]
    exact q1
end Go.Proofs.Ytbcbhcohfbkijaa
