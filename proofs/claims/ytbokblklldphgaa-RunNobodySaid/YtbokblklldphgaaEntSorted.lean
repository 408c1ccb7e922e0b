/-
  Are entries in order; a copy of entries. (Printed by gen_ent.py.)
-/
import Derived.Test.YtbokblklldphgaaEntCmp
import Derived.Test.YtbokblklldphgaaRecSame
import Derived.Test.YtbokblklldphgaaEff2
namespace Go.Proofs.Ytbokblklldphgaa
open Go.RowKit Go.Ox Go.Shelf
set_option linter.unusedVariables false
set_option linter.unusedSimpArgs false

theorem eqlNilE (w : World) (A : Option Addr) (n c n' c' : Nat) : (binOp .eql 38 (.slice A n c) (.slice none n' c')).run Try.prog w = .ok (.bool A.isNone) w :=
  Lib.run_eql_slice_nil (P := Try.prog) w 38 33 A n c n' c' Try.underlying38
theorem easc_s {l : List Ent.E} {j : Nat} (h : j + 1 < l.length) (ha : Ent.Asc (l.take (j + 1))) (hc : ¬ Ent.lt l[j + 1] l[j]) : Ent.Asc (l.take (j + 1 + 1)) := by
  rw [List.take_succ_eq_append_getElem h]
  refine List.pairwise_append.2 ⟨ha, List.pairwise_singleton _ _, ?_⟩
  intro x hx y hy
  rw [List.mem_singleton.1 hy]
  refine Ent.not_lt_trans ?_ hc
  rw [List.take_succ_eq_append_getElem (by omega)] at ha hx
  rcases List.mem_append.1 hx with q | q
  · exact (List.pairwise_append.1 ha).2.2 x q _ (List.mem_singleton.2 rfl)
  · rw [List.mem_singleton.1 q]; exact Ent.lt_irrefl _
theorem easc_not {l : List Ent.E} {j : Nat} (h : j + 1 < l.length) (hc : Ent.lt l[j + 1] l[j]) : ¬ Ent.Asc l := fun ha =>
  (List.pairwise_iff_getElem.1 ha j (j + 1) (by omega) h (by omega)) hc
theorem easc_1 (l : List Ent.E) : Ent.Asc (l.take 1) := by
  match l with
  | [] => exact List.Pairwise.nil
  | x :: r => exact List.pairwise_singleton _ _
theorem easc_short {l : List Ent.E} (h : l.length ≤ 1) : Ent.Asc l := by
  match l, h with
  | [], _ => exact List.Pairwise.nil
  | [x], _ => exact List.pairwise_singleton _ _

theorem easc_down {l : List Ent.E} {j : Nat} (h : j + 1 < l.length) (ha : Ent.Asc (l.drop (j + 1))) (hc : ¬ Ent.lt l[j + 1] l[j]) : Ent.Asc (l.drop j) := by
  rw [List.drop_eq_getElem_cons (by omega)]
  refine List.pairwise_cons.2 ⟨?_, ha⟩
  intro y hy
  rw [List.drop_eq_getElem_cons h] at ha hy
  rcases List.mem_cons.1 hy with q | q
  · rw [q]; exact hc
  · exact Ent.not_lt_trans hc ((List.pairwise_cons.1 ha).1 y q)
theorem easc_last (l : List Ent.E) : Ent.Asc (l.drop (l.length - 1)) := easc_short (by rw [List.length_drop]; omega)

set_option maxRecDepth 100000 in
set_option maxHeartbeats 1000000 in
theorem cloneE_any (v : Value) (l : List Ent.E) (w : World) (hb : RE w v l) (hl : l.length ≤ 1000000000) :
    Calls Try.prog 29 #[v] w fun e w' => ∃ v', e = .returned v' ∧ OE 33 w.heap.size w' v' l ∧ Ext w w' := by
  have HB := Lib.hid hb
  obtain ⟨A, c, rfl⟩ := hb.form
  have hnc := hb.nc
  have he := eqlNilE
  have HE := he
  cases A with
  | none =>
    obtain ⟨A', c', he', hrd⟩ := hb
    injection he' with e1 e2 e3
    subst e1 e3
    have h0 := hrd.nil rfl
    have hn : l.length = 0 := by omega
    obtain rfl := List.eq_nil_of_length_eq_zero hn
    subst h0
    clear hrd hn hnc
    go_enter Try.func29, Try.ntmps29
    go_wp2
    go_ret
    exact ⟨_, rfl, OE.nilS _ _ _, Ext.refl _⟩
  | some ad =>
    clear hb hnc
    have hown : (w.alloc (.cells #[] 33)).ownsRow w.heap.size 33 4 (.slice (some ⟨w.heap.size, 0, none⟩) 0 0) 0 [] :=
      World.ownsRow_lit w #[] 0 (Nat.le_refl _) (by unfold maxLen; omega) rfl
    have HO := Lib.hid hown
    clear hown
    go_enter Try.func29, Try.ntmps29
    go_wp2_with (at_builtin; refine wpList_app rfl elemE _ _ _ rfl w.heap.size _ 0 [] rfl HO.out _ l.length (eV l) rfl (HB.out.ext ((Ext.refl _).alloc _)) (one_eV l) (by omega) (by unfold maxLen; omega) (by simp) ?_; intro v' w' ha)
    go_ret
    exact ⟨_, rfl, OE.of0 ha.own, ha.ext ((Ext.refl _).alloc _) rfl HO.out⟩
end Go.Proofs.Ytbokblklldphgaa
