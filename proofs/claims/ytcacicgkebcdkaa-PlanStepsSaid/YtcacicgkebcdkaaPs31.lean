/-
  GrAll, packed: what the claim needs of them.
-/
import Derived.Test.YtcacicgkebcdkaaPs15
import Derived.Test.YtcacicgkebcdkaaPs26
import Derived.Test.YtcacicgkebcdkaaPs27
import Derived.Test.YtcacicgkebcdkaaPs18
import Derived.Test.YtcacicgkebcdkaaPs30
import Derived.Test.YtcacicgkebcdkaaPs29
namespace Go.Ox.Gr
open Go.RowKit
def gPl (g : G) : List Pl := if gOk g = true then places g.1 else []
def gNd (g : G) (p : Pl) : Option Nd := if gOk g = true then nodeAt g.1 p else none
def gUs (g : G) (p : Pl) : List ((Int × Int) × Int) := if (gNd g p).isSome = true then (if p.2 < 0 then ru true p.1 g.1 else ru false p.2 g.1) else []
theorem nodeAt_cases {l : List Nd} {p : Pl} {n : Nd} (h : nodeAt l p = some n) : ∃ (i : Nat) (hi : i < l.length), p.1 = (i : Int) ∧ ((p.2 = -1 ∧ n = l[i]) ∨ ∃ (j : Nat) (hj : j < l[i].body.length), p.2 = (j : Int) ∧ n = l[i].body[j]) := by
  unfold nodeAt at h
  by_cases h0 : 0 ≤ p.1
  · rw [if_pos h0] at h
    cases hn : l[p.1.toNat]? with
    | none => rw [hn] at h; cases h
    | some m =>
      rw [hn] at h
      obtain ⟨hk, hkn⟩ := List.getElem?_eq_some_iff.1 hn
      simp only at h
      refine ⟨p.1.toNat, hk, by omega, ?_⟩
      by_cases h1 : p.2 = -1
      · rw [if_pos h1] at h
        injection h with h
        exact .inl ⟨h1, by rw [hkn, h]⟩
      · rw [if_neg h1] at h
        by_cases h2 : 0 ≤ p.2
        · rw [if_pos h2] at h
          obtain ⟨hj, hjn⟩ := List.getElem?_eq_some_iff.1 h
          subst hkn
          exact .inr ⟨p.2.toNat, hj, by omega, hjn.symm⟩
        · rw [if_neg h2] at h; cases h
  · rw [if_neg h0] at h; cases h
theorem nodeAt_none {l : List Nd} {i j : Int} (h : nodeAt l (i, j) = none) : i < 0 ∨ (l.length : Int) ≤ i ∨ j < -1 ∨ ∃ (k : Nat) (hk : k < l.length), i = (k : Int) ∧ 0 ≤ j ∧ (l[k].body.length : Int) ≤ j := by
  by_cases h0 : 0 ≤ i
  · by_cases h1 : (l.length : Int) ≤ i
    · exact .inr (.inl h1)
    · by_cases h2 : j < -1
      · exact .inr (.inr (.inl h2))
      · obtain ⟨k, rfl⟩ : ∃ k : Nat, i = (k : Int) := ⟨i.toNat, by omega⟩
        have hk : k < l.length := by omega
        by_cases h3 : j = -1
        · subst h3
          rw [nodeAt_top hk] at h; cases h
        · obtain ⟨m, rfl⟩ : ∃ m : Nat, j = (m : Int) := ⟨j.toNat, by omega⟩
          by_cases hm : m < l[k].body.length
          · rw [nodeAt_in hk hm] at h; cases h
          · exact .inr (.inr (.inr ⟨k, hk, rfl, by omega, by omega⟩))
  · exact .inl (by omega)
theorem gNd_places {g : G} {p : Pl} (h : gOk g = true) : (gNd g p).isSome = true ↔ p ∈ places g.1 := by
  unfold gNd
  rw [if_pos h, nodeAt_mem]
end Go.Ox.Gr
namespace Go.Proofs.Ytcacicgkebcdkaa
open Go.RowKit Go.Ox Go.Ox.Gr
set_option linter.unusedVariables false
set_option linter.unusedSimpArgs false
attribute [local irreducible] RE OE NodesR
set_option maxRecDepth 100000 in
set_option maxHeartbeats 2000000 in
theorem gPlaces_bad (d : Nat) (v : Value) (l : List Nd) (out : Int) (w : World) (hv : NodesR d w v l) (hok : gOk (l, out) = false) :
    Calls Try.prog 27 #[gAg v out] w fun e w' => e = .returned (.slice none 0 0) ∧ Ext w w' := by
  obtain ⟨A, c, rfl⟩ := hv.form
  have HX0 := Lib.hid ((Ext.refl w).alloc (gCs (.slice A l.length c) out))
  have HB0 := Lib.hid (Blk.new w 24 #[.slice A l.length c, .int .i64 out])
  have HC := Lib.hid (gCheck_any d (.slice A l.length c) l out _ (hv.ext HX0.out))
  rw [show gE (l, out) = 170 from by unfold gE; rw [hok]; rfl] at HC
  clear hv hok
  go_enter Try.func27, Try.ntmps27
  go_upto_region 1 with fail
  generalize w.heap.size = p at *
  generalize w.alloc (gCs (.slice A l.length c) out) = w0 at *
  have y0 : w0.cell? ⟨p, 0, none⟩ = some (.slice A l.length c) := HB0.out.cell 0
  have y1 : w0.cell? ⟨p, 1, none⟩ = some (.int .i64 out) := HB0.out.cell 1
  go_wp2_with fail
  refine HC.out.mono ?_
  rintro e w1 ⟨rfl, he1⟩
  go_wp2
  go_ret
  exact ⟨rfl, HX0.out.trans he1⟩
theorem body_le {l : List Nd} {out : Int} (h : gOk (l, out) = true) : l.length ≤ 100 ∧ ∀ n ∈ l, n.body.length ≤ 100 := ⟨(gOk_Lk h).1, fun n hn => ((gOk_Lk h).2 n hn).1⟩
/-- the places of any graph -/
theorem gPlaces_any (d : Nat) (v : Value) (g : G) (w : World) (hv : NodesR d w v g.1) :
    Calls Try.prog 27 #[gAg v g.2] w fun e w' => ∃ u, e = .returned u ∧ RE w' u (gPl g) ∧ Ext w w' := by
  obtain ⟨l, out⟩ := g
  cases hok : gOk (l, out) with
  | true =>
    refine (gPlaces_ok d v l out w hv (body_le hok).1 (body_le hok).2 hok).mono ?_
    rintro e w' ⟨u, rfl, ho, he⟩
    exact ⟨u, rfl, by unfold gPl; rw [if_pos hok]; exact ho.re, he⟩
  | false =>
    refine (gPlaces_bad d v l out w hv hok).mono ?_
    rintro e w' ⟨rfl, he⟩
    exact ⟨_, rfl, by unfold gPl; rw [if_neg (by rw [hok]; simp)]; exact RE.nilS _, he⟩
/-- no node -/
theorem gNode_no (d : Nat) (v : Value) (g : G) (p : Pl) (w : World) (hv : NodesR d w v g.1) (hg : gNd g p = none) :
    Calls Try.prog 44 #[gAg v g.2, plV p] w fun e w' => e = .returned (.tuple #[nd0V, .bool false]) ∧ Ext w w' := by
  obtain ⟨l, out⟩ := g
  obtain ⟨i, j⟩ := p
  cases hok : gOk (l, out) with
  | false => exact gNode_none d v l out i j w hv (.inl hok)
  | true =>
    unfold gNd at hg
    rw [if_pos hok] at hg
    rcases nodeAt_none hg with q | q | q | ⟨k, hk, rfl, q1, q2⟩
    · exact gNode_none d v l out i j w hv (.inr ⟨hok, .inl q⟩)
    · by_cases q0 : i < 0
      · exact gNode_none d v l out i j w hv (.inr ⟨hok, .inl q0⟩)
      · exact gNode_none d v l out i j w hv (.inr ⟨hok, .inr (.inl ⟨by omega, q⟩)⟩)
    · by_cases q0 : i < 0
      · exact gNode_none d v l out i j w hv (.inr ⟨hok, .inl q0⟩)
      · by_cases q1 : (l.length : Int) ≤ i
        · exact gNode_none d v l out i j w hv (.inr ⟨hok, .inr (.inl ⟨by omega, q1⟩)⟩)
        · exact gNode_none d v l out i j w hv (.inr ⟨hok, .inr (.inr ⟨by omega, by omega, q⟩)⟩)
    · have hkn := List.getElem?_eq_getElem hk
      generalize l[k] = n at *
      obtain ⟨op, ins, kind, fa, a, body⟩ := n
      exact gNode_out d v l out k j op kind fa a ins body w hv hok hkn ⟨q1, q2⟩
/-- the node at any place -/
theorem gNode_any (d : Nat) (v : Value) (g : G) (p : Pl) (w : World) (hv : NodesR d w v g.1) :
    Calls Try.prog 44 #[gAg v g.2, plV p] w fun e w' => ∃ u b, e = .returned (.tuple #[ndAg ((gNd g p).getD default).op ((gNd g p).getD default).kind ((gNd g p).getD default).fa ((gNd g p).getD default).a u b, .bool (gNd g p).isSome]) ∧
      RE w' u ((gNd g p).getD default).ins ∧ NodesR 1 w' b ((gNd g p).getD default).body ∧ Ext w w' := by
  cases hn : gNd g p with
  | none =>
    refine (gNode_no d v g p w hv hn).mono ?_
    rintro e w' ⟨rfl, he⟩
    exact ⟨.slice none 0 0, .slice none 0 0, rfl, RE.nilS _, NodesR.nil _ _, he⟩
  | some n =>
    obtain ⟨l, out⟩ := g
    obtain ⟨i, j⟩ := p
    have hok : gOk (l, out) = true := by
      cases h : gOk (l, out) with
      | true => rfl
      | false => unfold gNd at hn; rw [if_neg (by rw [h]; simp)] at hn; cases hn
    have hn2 : nodeAt l (i, j) = some n := by unfold gNd at hn; rw [if_pos hok] at hn; exact hn
    obtain ⟨k, hk, h1, h2⟩ := nodeAt_cases hn2
    simp only at h1 h2
    subst h1
    have hkn := List.getElem?_eq_getElem hk
    rcases h2 with ⟨rfl, rfl⟩ | ⟨m, hm, rfl, rfl⟩
    · generalize l[k] = n at *
      obtain ⟨op, ins, kind, fa, a, body⟩ := n
      exact gNode_top d v l out k op kind fa a ins body w hv hok hkn
    · have hb : l[k].body[m].body = [] := ((gOk_nd hok (List.getElem_mem hk)).2.2 _ (List.getElem_mem hm)).1
      have hmn := List.getElem?_eq_getElem hm
      generalize l[k].body[m] = x at *
      generalize l[k] = n at *
      obtain ⟨op, ins, kind, fa, a, body⟩ := n
      obtain ⟨mop, mins, mkind, mfa, ma, mbody⟩ := x
      refine (gNode_in d v l out k m op kind fa a ins body w hv hok hkn mop mkind mfa ma mins mbody hmn).mono ?_
      rintro e w' ⟨u, rfl, hu, he⟩
      obtain rfl : mbody = [] := hb
      exact ⟨u, .slice none 0 0, rfl, hu, NodesR.nil _ _, he⟩
/-- the users of any place -/
theorem gUsers_own (d : Nat) (v : Value) (g : G) (p : Pl) (w : World) (hv : NodesR d w v g.1) :
    Calls Try.prog 28 #[gAg v g.2, plV p] w fun e w' => ∃ u, e = .returned u ∧ OE 61 w.heap.size w' u (gUs g p) ∧ Ext w w' := by
  cases hn : gNd g p with
  | none =>
    have hu : gUs g p = [] := by unfold gUs; rw [hn]; rfl
    obtain ⟨l, out⟩ := g
    obtain ⟨i, j⟩ := p
    refine (gUsers_none d v l out i j w hv fun W hW => gNode_no d v (l, out) (i, j) W (hv.ext hW) hn).mono ?_
    rintro e w' ⟨rfl, he⟩
    exact ⟨_, rfl, by rw [hu]; exact OE.nilS _ _ _, he⟩
  | some n =>
    obtain ⟨l, out⟩ := g
    obtain ⟨i, j⟩ := p
    have hok : gOk (l, out) = true := by
      cases h : gOk (l, out) with
      | true => rfl
      | false => unfold gNd at hn; rw [if_neg (by rw [h]; simp)] at hn; cases hn
    have hn2 : nodeAt l (i, j) = some n := by unfold gNd at hn; rw [if_pos hok] at hn; exact hn
    have hu : gUs (l, out) (i, j) = if j < 0 then ru true i l else ru false j l := by unfold gUs; rw [hn]; rfl
    rw [hu]
    obtain ⟨k, hk, h1, h2⟩ := nodeAt_cases hn2
    simp only at h1 h2
    subst h1
    have hkn := List.getElem?_eq_getElem hk
    rcases h2 with ⟨rfl, rfl⟩ | ⟨m, hm, rfl, rfl⟩
    · rw [if_pos (by omega), ru_top hok]
      generalize l[k] = n at *
      obtain ⟨op, ins, kind, fa, a, body⟩ := n
      exact gUsers_top d v l out k op kind fa a ins body w hv hok hkn
    · rw [if_neg (by omega), ru_in hok hk hm]
      have hmn := List.getElem?_eq_getElem hm
      generalize l[k].body[m] = x at *
      generalize l[k] = n at *
      obtain ⟨op, ins, kind, fa, a, body⟩ := n
      obtain ⟨mop, mins, mkind, mfa, ma, mbody⟩ := x
      exact gUsers_in d v l out k m op kind fa a ins body mop mkind mfa ma mins mbody w hv hok hkn hmn
end Go.Proofs.Ytcacicgkebcdkaa
