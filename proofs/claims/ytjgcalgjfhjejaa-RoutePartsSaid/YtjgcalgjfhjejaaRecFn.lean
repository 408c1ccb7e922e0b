/-
  The walks of package rec: what hands functions to the library.
-/
import Derived.Test.YtjgcalgjfhjejaaRec
import Derived.Test.YtjgcalgjfhjejaaShelf
namespace Go.Proofs.Ytjgcalgjfhjejaa
open Go.RowKit Go.Ox Go.Shelf
set_option linter.unusedVariables false

set_option maxRecDepth 100000 in
set_option maxHeartbeats 400000 in
theorem index0_any (A : Option Addr) (c : Nat) (f : Value) (w : World) :
    Calls Try.prog 28 #[.slice A 0 c, f] w fun e w' => e = .returned (.int .i64 (-1)) ∧ w = w' := by
  go_enter Try.func28, Try.ntmps28
  go_wp2
  go_loop [8] (fun i => i = .int .i64 0) (fun _ => 0)
  case atStart => rfl
  case round =>
    subst hrel
    go_wp2
    go_ret
    exact ⟨rfl, rfl⟩
set_option maxRecDepth 100000 in
set_option maxHeartbeats 400000 in
theorem contains0_any (A : Option Addr) (c : Nat) (f : Value) (w : World) :
    Calls Try.prog 20 #[.slice A 0 c, f] w fun e w' => e = .returned (.bool false) ∧ w = w' := by
  go_enter Try.func20, Try.ntmps20
  go_wp2_with (go_at_call 28; refine (index0_any _ _ _ _).mono ?_; rintro e w' ⟨rfl, rfl⟩)
  go_ret
  exact ⟨rfl, rfl⟩
theorem containsF_any (p : Mom.M → Bool) (g : Nat) (lb : Array Value) (eg : ∀ args w, (callFunc g args).run Try.prog w = .ok (.enter g args) w) (v : Value) (l : List Mom.M) (w : World) (hv : RP w v l)
    (hp : PredBelow Try.prog g lb (fun x => .agg (encM x).toArray) p w) (hl : l.length ≤ 1000000000) :
    Calls Try.prog 20 #[v, .func (.func g) #[] lb] w fun e w' => e = .returned (.bool (l.any p)) ∧ Ext w w' := by
  obtain ⟨A, c, rfl⟩ := hv.form
  by_cases h0 : l.length = 0
  · obtain rfl := List.eq_nil_of_length_eq_zero h0
    exact (contains0_any A c _ w).mono fun e w' ⟨h1, h2⟩ => ⟨h1, by subst h2; exact Ext.refl _⟩
  · obtain ⟨b, o, rfl, hc, _⟩ := hv.at_ (k := 0) (by omega)
    have hcon := AnyQ.slices_ContainsFunc Try.contains 2 Try.isAgg42 Try.sizeOf42 encM (fun _ => rfl) p g lb eg b o l.length c l w hp (Nat.le_refl _) (by omega) (World.block_lt_of_cell? w _ hc) (fun j hj i u hi => by
      obtain ⟨b', o', he, h1, h2⟩ := hv.at_ hj
      injection he with he
      injection he with e1 e2
      subst e1 e2
      have hg : l[j]! = l[j] := getElem!_pos l j hj
      rw [hg] at hi
      match i, hi with
      | 0, hi => simp at hi; rw [← hi]; exact h1
      | 1, hi => simp at hi; rw [← hi]; exact h2
      | i + 2, hi => simp at hi)
    rw [List.take_length] at hcon
    exact hcon
set_option maxRecDepth 100000 in
set_option maxHeartbeats 400000 in
theorem may1_gives (w : World) : PredBelow Try.prog 29 #[] (fun x => .agg (encM x).toArray) (fun x => !Rec.ok x) w := fun W x hb => by
  show Calls Try.prog 29 #[mV x] W _
  have HC := Lib.hid (fun w => check_any x w)
  obtain ⟨a, b⟩ := x
  dsimp only at *
  cases hq : Rec.ok (a, b) with
  | true =>
    rw [hq, if_pos rfl] at HC
    go_enter Try.func29, Try.ntmps29
    go_wp2_with (go_at_call 30; refine (HC.out _).mono ?_; rintro e w1 ⟨rfl, he1⟩)
    go_ret
    exact ⟨rfl, hb.trans (((Ext.refl _).alloc _ |>.trans he1).mono hb.size)⟩
  | false =>
    rw [hq, if_neg (by simp)] at HC
    go_enter Try.func29, Try.ntmps29
    go_wp2_with (go_at_call 30; refine (HC.out _).mono ?_; rintro e w1 ⟨rfl, he1⟩)
    go_ret
    exact ⟨rfl, hb.trans (((Ext.refl _).alloc _ |>.trans he1).mono hb.size)⟩
set_option maxRecDepth 100000 in
set_option maxHeartbeats 400000 in
theorem cloneM_any (v : Value) (l : List Mom.M) (w : World) (hb : RP w v l) (hl : l.length ≤ 1000000000) :
    Calls Try.prog 32 #[v] w fun e w' => ∃ v', e = .returned v' ∧ OP 42 w.heap.size w' v' l ∧ Ext w w' := by
  have HB := Lib.hid hb
  obtain ⟨A, c, rfl⟩ := hb.form
  have hnc := hb.nc
  have he := eqlNilM
  have HE := he
  cases A with
  | none =>
    obtain ⟨A', c', he', hrd⟩ := hb
    injection he' with e1 e2 e3
    subst e1 e3
    have h0 := hrd.nil rfl
    have hn : l.length = 0 := by omega
    obtain rfl := List.eq_nil_of_length_eq_zero hn
    subst h0
    clear hrd hn hnc
    go_enter Try.func32, Try.ntmps32
    go_wp2
    go_ret
    exact ⟨_, rfl, OP.nilS _ _ _, Ext.refl _⟩
  | some ad =>
    clear hb hnc
    have hown : (w.alloc (.cells #[] 42)).ownsRow w.heap.size 42 2 (.slice (some ⟨w.heap.size, 0, none⟩) 0 0) 0 [] :=
      World.ownsRow_lit w #[] 0 (Nat.le_refl _) (by unfold maxLen; omega) rfl
    have HO := Lib.hid hown
    clear hown
    go_enter Try.func32, Try.ntmps32
    go_wp2_with (at_builtin; refine wpList_app rfl elemM _ _ _ rfl w.heap.size _ 0 [] rfl HO.out _ l.length (pV l) rfl (HB.out.ext ((Ext.refl _).alloc _)) (one_pV l) (by omega) (by unfold maxLen; omega) (by simp) ?_; intro v' w' ha)
    go_ret
    exact ⟨_, rfl, OP.of0 ha.own, ha.ext ((Ext.refl _).alloc _) rfl HO.out⟩
set_option maxRecDepth 100000 in
set_option maxHeartbeats 400000 in
theorem may_any (v : Value) (l : List Rec.R) (w : World) (hv : RP w v l) (hl : l.length ≤ 1000000) :
    Calls Try.prog 22 #[v] w fun e w' => e = .returned (.int .i64 (Rec.may l)) ∧ Ext w w' := by
  have eg : ∀ args w, (callFunc 29 args).run Try.prog w = .ok (.enter 29 args) w := enters_of Try.func29 (by kernel_rfl) rfl
  have HC := Lib.hid (containsF_any (fun x => !Rec.ok x) 29 #[] eg v l w hv (may1_gives w) (by omega))
  obtain ⟨A, c, rfl⟩ := hv.form
  unfold Rec.may
  cases hb : l.any fun x => !Rec.ok x with
  | true =>
    rw [hb] at HC
    rw [if_pos rfl]
    clear eg hv hb
    go_enter Try.func22, Try.ntmps22
    go_wp2_with fail
    refine HC.out.mono ?_
    rintro e w1 ⟨rfl, he1⟩
    go_wp2
    go_ret
    exact ⟨rfl, he1⟩
  | false =>
    rw [hb] at HC
    rw [if_neg (by simp)]
    clear eg hv hb
    by_cases h2 : 4096 < l.length
    · have g : (4096 : Int) < (l.length : Int) := by omega
      rw [if_pos h2]
      clear h2
      go_enter Try.func22, Try.ntmps22
      go_wp2_with fail
      refine HC.out.mono ?_
      rintro e w1 ⟨rfl, he1⟩
      go_wp2
      go_ret
      exact ⟨rfl, he1⟩
    · have g : ¬ (4096 : Int) < (l.length : Int) := by omega
      rw [if_neg h2]
      clear h2
      go_enter Try.func22, Try.ntmps22
      go_wp2_with fail
      refine HC.out.mono ?_
      rintro e w1 ⟨rfl, he1⟩
      go_wp2
      go_ret
      exact ⟨rfl, he1⟩
end Go.Proofs.Ytjgcalgjfhjejaa
