/-
  GrAll, PlArcs, packed: what the claim needs of them.
-/
import Derived.Test.YtcacicgkebcdkaaPe14
import Derived.Test.YtcacicgkebcdkaaPe25
import Derived.Test.YtcacicgkebcdkaaPe26
import Derived.Test.YtcacicgkebcdkaaPe17
import Derived.Test.YtcacicgkebcdkaaPe28
import Derived.Test.YtcacicgkebcdkaaPe18
import Derived.Test.YtcacicgkebcdkaaPe22
import Derived.Test.YtcacicgkebcdkaaPe23
set_option linter.unusedSimpArgs false
set_option linter.unusedVariables false
set_option maxRecDepth 100000
namespace Go.Ox.Gr
open Go.RowKit
def gPl (g : G) : List Pl := if gOk g = true then places g.1 else []
def gNd (g : G) (p : Pl) : Option Nd := if gOk g = true then nodeAt g.1 p else none
def gUs (g : G) (p : Pl) : List ((Int × Int) × Int) := if (gNd g p).isSome = true then (if p.2 < 0 then ru true p.1 g.1 else ru false p.2 g.1) else []
theorem nodeAt_cases {l : List Nd} {p : Pl} {n : Nd} (h : nodeAt l p = some n) : ∃ (i : Nat) (hi : i < l.length), p.1 = (i : Int) ∧ ((p.2 = -1 ∧ n = l[i]) ∨ ∃ (j : Nat) (hj : j < l[i].body.length), p.2 = (j : Int) ∧ n = l[i].body[j]) := by
  unfold nodeAt at h
  by_cases h0 : 0 ≤ p.1
  · rw [if_pos h0] at h
    cases hn : l[p.1.toNat]? with
    | none => rw [hn] at h; cases h
    | some m =>
      rw [hn] at h
      obtain ⟨hk, hkn⟩ := List.getElem?_eq_some_iff.1 hn
      simp only at h
      refine ⟨p.1.toNat, hk, by omega, ?_⟩
      by_cases h1 : p.2 = -1
      · rw [if_pos h1] at h
        injection h with h
        exact .inl ⟨h1, by rw [hkn, h]⟩
      · rw [if_neg h1] at h
        by_cases h2 : 0 ≤ p.2
        · rw [if_pos h2] at h
          obtain ⟨hj, hjn⟩ := List.getElem?_eq_some_iff.1 h
          subst hkn
          exact .inr ⟨p.2.toNat, hj, by omega, hjn.symm⟩
        · rw [if_neg h2] at h; cases h
  · rw [if_neg h0] at h; cases h
theorem nodeAt_none {l : List Nd} {i j : Int} (h : nodeAt l (i, j) = none) : i < 0 ∨ (l.length : Int) ≤ i ∨ j < -1 ∨ ∃ (k : Nat) (hk : k < l.length), i = (k : Int) ∧ 0 ≤ j ∧ (l[k].body.length : Int) ≤ j := by
  by_cases h0 : 0 ≤ i
  · by_cases h1 : (l.length : Int) ≤ i
    · exact .inr (.inl h1)
    · by_cases h2 : j < -1
      · exact .inr (.inr (.inl h2))
      · obtain ⟨k, rfl⟩ : ∃ k : Nat, i = (k : Int) := ⟨i.toNat, by omega⟩
        have hk : k < l.length := by omega
        by_cases h3 : j = -1
        · subst h3
          rw [nodeAt_top hk] at h; cases h
        · obtain ⟨m, rfl⟩ : ∃ m : Nat, j = (m : Int) := ⟨j.toNat, by omega⟩
          by_cases hm : m < l[k].body.length
          · rw [nodeAt_in hk hm] at h; cases h
          · exact .inr (.inr (.inr ⟨k, hk, rfl, by omega, by omega⟩))
  · exact .inl (by omega)
theorem gNd_places {g : G} {p : Pl} (h : gOk g = true) : (gNd g p).isSome = true ↔ p ∈ places g.1 := by
  unfold gNd
  rw [if_pos h, nodeAt_mem]
end Go.Ox.Gr
namespace Go.Proofs.Ytcacicgkebcdkaa
open Go.RowKit Go.Ox Go.Ox.Gr
attribute [local irreducible] RE OE NodesR
set_option maxHeartbeats 2000000 in
theorem gPlaces_bad (d : Nat) (v : Value) (l : List Nd) (out : Int) (w : World) (hv : NodesR d w v l) (hok : gOk (l, out) = false) :
    Calls Try.prog 27 #[gAg v out] w fun e w' => e = .returned (.slice none 0 0) ∧ Ext w w' := by
  obtain ⟨A, c, rfl⟩ := hv.form
  have HX0 := Lib.hid ((Ext.refl w).alloc (gCs (.slice A l.length c) out))
  have HB0 := Lib.hid (Blk.new w 24 #[.slice A l.length c, .int .i64 out])
  have HC := Lib.hid (gCheck_any d (.slice A l.length c) l out _ (hv.ext HX0.out))
  rw [show gE (l, out) = 170 from by unfold gE; rw [hok]; rfl] at HC
  clear hv hok
  go_enter Try.func27, Try.ntmps27
  go_upto_region 1 with fail
  generalize w.heap.size = p at *
  generalize w.alloc (gCs (.slice A l.length c) out) = w0 at *
  have y0 : w0.cell? ⟨p, 0, none⟩ = some (.slice A l.length c) := HB0.out.cell 0
  have y1 : w0.cell? ⟨p, 1, none⟩ = some (.int .i64 out) := HB0.out.cell 1
  go_wp2_with fail
  refine HC.out.mono ?_
  rintro e w1 ⟨rfl, he1⟩
  go_wp2
  go_ret
  exact ⟨rfl, HX0.out.trans he1⟩
theorem body_le {l : List Nd} {out : Int} (h : gOk (l, out) = true) : l.length ≤ 100 ∧ ∀ n ∈ l, n.body.length ≤ 100 := ⟨(gOk_Lk h).1, fun n hn => ((gOk_Lk h).2 n hn).1⟩
theorem gPlaces_any (d : Nat) (v : Value) (g : G) (w : World) (hv : NodesR d w v g.1) :
    Calls Try.prog 27 #[gAg v g.2] w fun e w' => ∃ u, e = .returned u ∧ RE w' u (gPl g) ∧ Ext w w' := by
  obtain ⟨l, out⟩ := g
  cases hok : gOk (l, out) with
  | true =>
    refine (gPlaces_ok d v l out w hv (body_le hok).1 (body_le hok).2 hok).mono ?_
    rintro e w' ⟨u, rfl, ho, he⟩
    exact ⟨u, rfl, by unfold gPl; rw [if_pos hok]; exact ho.re, he⟩
  | false =>
    refine (gPlaces_bad d v l out w hv hok).mono ?_
    rintro e w' ⟨rfl, he⟩
    exact ⟨_, rfl, by unfold gPl; rw [if_neg (by rw [hok]; simp)]; exact RE.nilS _, he⟩
theorem gNode_no (d : Nat) (v : Value) (g : G) (p : Pl) (w : World) (hv : NodesR d w v g.1) (hg : gNd g p = none) :
    Calls Try.prog 44 #[gAg v g.2, plV p] w fun e w' => e = .returned (.tuple #[nd0V, .bool false]) ∧ Ext w w' := by
  obtain ⟨l, out⟩ := g
  obtain ⟨i, j⟩ := p
  cases hok : gOk (l, out) with
  | false => exact gNode_none d v l out i j w hv (.inl hok)
  | true =>
    unfold gNd at hg
    rw [if_pos hok] at hg
    rcases nodeAt_none hg with q | q | q | ⟨k, hk, rfl, q1, q2⟩
    · exact gNode_none d v l out i j w hv (.inr ⟨hok, .inl q⟩)
    · by_cases q0 : i < 0
      · exact gNode_none d v l out i j w hv (.inr ⟨hok, .inl q0⟩)
      · exact gNode_none d v l out i j w hv (.inr ⟨hok, .inr (.inl ⟨by omega, q⟩)⟩)
    · by_cases q0 : i < 0
      · exact gNode_none d v l out i j w hv (.inr ⟨hok, .inl q0⟩)
      · by_cases q1 : (l.length : Int) ≤ i
        · exact gNode_none d v l out i j w hv (.inr ⟨hok, .inr (.inl ⟨by omega, q1⟩)⟩)
        · exact gNode_none d v l out i j w hv (.inr ⟨hok, .inr (.inr ⟨by omega, by omega, q⟩)⟩)
    · have hkn := List.getElem?_eq_getElem hk
      generalize l[k] = n at *
      obtain ⟨op, ins, kind, fa, a, body⟩ := n
      exact gNode_out d v l out k j op kind fa a ins body w hv hok hkn ⟨q1, q2⟩
theorem gNode_any (d : Nat) (v : Value) (g : G) (p : Pl) (w : World) (hv : NodesR d w v g.1) :
    Calls Try.prog 44 #[gAg v g.2, plV p] w fun e w' => ∃ u b, e = .returned (.tuple #[ndAg ((gNd g p).getD default).op ((gNd g p).getD default).kind ((gNd g p).getD default).fa ((gNd g p).getD default).a u b, .bool (gNd g p).isSome]) ∧
      RE w' u ((gNd g p).getD default).ins ∧ NodesR 1 w' b ((gNd g p).getD default).body ∧ Ext w w' := by
  cases hn : gNd g p with
  | none =>
    refine (gNode_no d v g p w hv hn).mono ?_
    rintro e w' ⟨rfl, he⟩
    exact ⟨.slice none 0 0, .slice none 0 0, rfl, RE.nilS _, NodesR.nil _ _, he⟩
  | some n =>
    obtain ⟨l, out⟩ := g
    obtain ⟨i, j⟩ := p
    have hok : gOk (l, out) = true := by
      cases h : gOk (l, out) with
      | true => rfl
      | false => unfold gNd at hn; rw [if_neg (by rw [h]; simp)] at hn; cases hn
    have hn2 : nodeAt l (i, j) = some n := by unfold gNd at hn; rw [if_pos hok] at hn; exact hn
    obtain ⟨k, hk, h1, h2⟩ := nodeAt_cases hn2
    simp only at h1 h2
    subst h1
    have hkn := List.getElem?_eq_getElem hk
    rcases h2 with ⟨rfl, rfl⟩ | ⟨m, hm, rfl, rfl⟩
    · generalize l[k] = n at *
      obtain ⟨op, ins, kind, fa, a, body⟩ := n
      exact gNode_top d v l out k op kind fa a ins body w hv hok hkn
    · have hb : l[k].body[m].body = [] := ((gOk_nd hok (List.getElem_mem hk)).2.2 _ (List.getElem_mem hm)).1
      have hmn := List.getElem?_eq_getElem hm
      generalize l[k].body[m] = x at *
      generalize l[k] = n at *
      obtain ⟨op, ins, kind, fa, a, body⟩ := n
      obtain ⟨mop, mins, mkind, mfa, ma, mbody⟩ := x
      refine (gNode_in d v l out k m op kind fa a ins body w hv hok hkn mop mkind mfa ma mins mbody hmn).mono ?_
      rintro e w' ⟨u, rfl, hu, he⟩
      obtain rfl : mbody = [] := hb
      exact ⟨u, .slice none 0 0, rfl, hu, NodesR.nil _ _, he⟩
theorem gUsers_own (d : Nat) (v : Value) (g : G) (p : Pl) (w : World) (hv : NodesR d w v g.1) :
    Calls Try.prog 28 #[gAg v g.2, plV p] w fun e w' => ∃ u, e = .returned u ∧ OE 61 w.heap.size w' u (gUs g p) ∧ Ext w w' := by
  cases hn : gNd g p with
  | none =>
    have hu : gUs g p = [] := by unfold gUs; rw [hn]; rfl
    obtain ⟨l, out⟩ := g
    obtain ⟨i, j⟩ := p
    refine (gUsers_none d v l out i j w hv fun W hW => gNode_no d v (l, out) (i, j) W (hv.ext hW) hn).mono ?_
    rintro e w' ⟨rfl, he⟩
    exact ⟨_, rfl, by rw [hu]; exact OE.nilS _ _ _, he⟩
  | some n =>
    obtain ⟨l, out⟩ := g
    obtain ⟨i, j⟩ := p
    have hok : gOk (l, out) = true := by
      cases h : gOk (l, out) with
      | true => rfl
      | false => unfold gNd at hn; rw [if_neg (by rw [h]; simp)] at hn; cases hn
    have hn2 : nodeAt l (i, j) = some n := by unfold gNd at hn; rw [if_pos hok] at hn; exact hn
    have hu : gUs (l, out) (i, j) = if j < 0 then ru true i l else ru false j l := by unfold gUs; rw [hn]; rfl
    rw [hu]
    obtain ⟨k, hk, h1, h2⟩ := nodeAt_cases hn2
    simp only at h1 h2
    subst h1
    have hkn := List.getElem?_eq_getElem hk
    rcases h2 with ⟨rfl, rfl⟩ | ⟨m, hm, rfl, rfl⟩
    · rw [if_pos (by omega), ru_top hok]
      generalize l[k] = n at *
      obtain ⟨op, ins, kind, fa, a, body⟩ := n
      exact gUsers_top d v l out k op kind fa a ins body w hv hok hkn
    · rw [if_neg (by omega), ru_in hok hk hm]
      have hmn := List.getElem?_eq_getElem hm
      generalize l[k].body[m] = x at *
      generalize l[k] = n at *
      obtain ⟨op, ins, kind, fa, a, body⟩ := n
      obtain ⟨mop, mins, mkind, mfa, ma, mbody⟩ := x
      exact gUsers_in d v l out k m op kind fa a ins body mop mkind mfa ma mins mbody w hv hok hkn hmn
end Go.Proofs.Ytcacicgkebcdkaa
namespace Go.Ox.Pl
open Go.Ox.Gr Go.Proofs.Ytcacicgkebcdkaa
def arcU (p : Int × Int) (u : (Int × Int) × Int) : Ar := ((p, u.1), (p.2 == -1 && u.1.2 != -1, 0))
def arcsP (g : G) (p : Int × Int) : List Ar := (gUs g p).map (arcU p)
def lpN (g : G) : Nd := (g.1[(loopAt g.1).toNat]?).getD default
def rndL (g : G) : List Ar := if loopB g = true then roundL (loopAt g.1) (lpN g).ins.head! (lpN g).body else []
def Arcs0 (g : G) : List Ar := (gPl g).flatMap (arcsP g) ++ rndL g
theorem pre_len {α β : Type} (f : α → List β) (l : List α) {k : Nat} (h : k < l.length) (j : Nat) : ((l.take k).flatMap f ++ (f l[k]).take j).length ≤ (l.flatMap f).length := by
  have e : l.flatMap f = (l.take k).flatMap f ++ (f l[k] ++ (l.drop (k + 1)).flatMap f) := by
    conv => lhs; rw [← List.take_append_drop k l, List.flatMap_append, List.drop_eq_getElem_cons h, List.flatMap_cons]
  rw [e, List.length_append, List.length_append, List.length_append, List.length_take]
  omega
theorem flatk {α β : Type} (f : α → List β) (l : List α) {k : Nat} (h : k < l.length) : (l.take (k + 1)).flatMap f = (l.take k).flatMap f ++ f l[k] := by
  rw [List.take_succ_eq_append_getElem h, List.flatMap_append]; simp
theorem mapk {α β : Type} (f : α → β) (l : List α) {k : Nat} (h : k < l.length) : (l.take (k + 1)).map f = (l.take k).map f ++ [f l[k]] := by
  rw [List.take_succ_eq_append_getElem h, List.map_append]; rfl
theorem loopFrom_at9 : ∀ (l : List Nd) (i n : Nat), loopFrom l i = ((i + n : Nat) : Int) → ∀ (hn : n < l.length), (l[n]).op = 9
  | [], _, _, _, h => by simp at h
  | m :: l, i, n, e, h => by
    by_cases q : m.op = 9
    · rw [loopFrom_hit q] at e
      obtain rfl : n = 0 := by omega
      exact q
    · rw [loopFrom_miss q] at e
      rcases loopFrom_range l (i + 1) with k | k
      · omega
      · obtain ⟨n, rfl⟩ : ∃ m, n = m + 1 := ⟨n - 1, by omega⟩
        exact loopFrom_at9 l (i + 1) n (by rw [e]; congr 1; omega) (by simpa using h)
theorem lpN_ok {g : G} (h : loopB g = true) : ∃ (n : Nat) (hn : n < g.1.length) (i0 : Int) (ir : List Int), loopAt g.1 = (n : Int) ∧ loopI g = (n : Int) ∧ lpN g = g.1[n] ∧ g.1[n].ins = i0 :: ir ∧ 1 ≤ g.1[n].body.length ∧ g.1[n].body.length ≤ 32 ∧ g.1[n].op = 9 := by
  unfold loopB at h
  rw [Bool.and_eq_true, decide_eq_true_eq] at h
  obtain ⟨hok, h0⟩ := h
  obtain ⟨l, out⟩ := g
  simp only at h0 ⊢
  obtain ⟨n, hn⟩ : ∃ n : Nat, loopAt l = (n : Int) := ⟨(loopAt l).toNat, by omega⟩
  have hnl : n < l.length := by rcases loopAt_range l with q | q <;> omega
  have h9 : (l[n]).op = 9 := by
    by_cases q : (l[n]).op = 9
    · exact q
    · exfalso
      exact q (loopFrom_at9 l 0 n (by rw [Nat.zero_add]; exact hn) hnl)
  have htop := ok_top hok hnl
  have hbody : 1 ≤ (l[n]).body.length := by
    rcases htop.2.2.2 with q | q
    · have := q.2
      unfold bodyOk at this
      simp only [Bool.and_eq_true, decide_eq_true_eq] at this
      exact this.1
    · exact absurd q.1 (fun e => e h9)
  have hnd := gOk_nd hok (List.getElem_mem hnl)
  have hins : (l[n]).ins.length = 1 := by
    have := htop.1
    unfold base at this
    simp only [Bool.and_eq_true, decide_eq_true_eq] at this
    have h1 := this.2.1
    rw [h9] at h1
    simp [arity] at h1
    omega
  obtain ⟨x, hx⟩ : ∃ x, (l[n]).ins = [x] := List.length_eq_one_iff.1 hins
  refine ⟨n, hnl, x, [], hn, ?_, ?_, hx, hbody, hnd.2.1, h9⟩
  · unfold loopI; rw [if_pos hok]; simp only; omega
  · unfold lpN; simp only; rw [hn, Int.toNat_natCast, List.getElem?_eq_getElem hnl]; rfl
theorem gPl_len (g : G) : (gPl g).length ≤ 10100 := by
  unfold gPl
  split
  · rename_i h
    have := places_len g.1 g.1.length (body_le (l := g.1) (out := g.2) h).2 (body_le (l := g.1) (out := g.2) h).1
    rwa [List.take_length] at this
  · simp
end Go.Ox.Pl
namespace Go.Proofs.Ytcacicgkebcdkaa
open Go.RowKit Go.Ox Go.Shelf Go.Sort Go.Ox.Gr
theorem srtd_of {s : List Pl.Ar} (h : s.Pairwise (fun a b => ltA b a = false)) : Pl.Srtd s := h.imp fun {a b} e q => by
  have := (ltA_is b a).2 q
  rw [e] at this; cases this
set_option maxHeartbeats 1000000 in
theorem compact_nil (w : World) : Calls Try.prog 35 #[.slice none 0 0, .func (.func 36) #[] #[]] w fun e w' => e = .returned (.slice none 0 0) ∧ w' = w := by
  go_enter Try.func35, Try.ntmps35
  go_wp2
  go_ret
  exact ⟨rfl, rfl⟩
theorem compact_any (v : Value) (l : List Pl.Ar) (base : Nat) (w : World) (ho : OE 39 base w v l) (hl : l.length ≤ 1000000) :
    Calls Try.prog 35 #[v, .func (.func 36) #[] #[]] w fun e w' => ∃ v', e = .returned v' ∧ OE 39 base w' v' (Pl.dd l) ∧ w.grownBy w' v.ownBlock := by
  rcases ho.own.2 with ⟨rfl, h0⟩ | ⟨g, cap, cur, rfl, hb, _⟩
  · obtain rfl := List.eq_nil_of_length_eq_zero h0
    refine (compact_nil w).mono ?_
    rintro e w' ⟨rfl, rfl⟩
    exact ⟨_, rfl, OE.nilS _ _ _, World.grownBy.refl _ _⟩
  · exact compact_own g cap base l w ho hl
attribute [local irreducible] RE OE NodesR
set_option maxHeartbeats 8000000 in
theorem arcs_any (d : Nat) (v : Value) (g : G) (w : World) (hv : NodesR d w v g.1) (hlen : (Pl.Arcs0 g).length ≤ 5000) :
    Calls Try.prog 9 #[gAg v g.2] w fun e w' => ∃ u s, e = .returned u ∧ s.Perm (Pl.Arcs0 g) ∧ Pl.Srtd s ∧ OE 39 w.heap.size w' u (Pl.dd s) ∧ Ext w w' := by
  have HPL := Lib.hid (fun W (h : Ext w W) => gPlaces_any d v g W (hv.ext h))
  have HUS := Lib.hid (fun p W (h : Ext w W) => gUsers_own d v g p W (hv.ext h))
  have HLP := Lib.hid (fun W (h : Ext w W) => gLoop_any d v g.1 g.2 W (hv.ext h))
  have HRN := Lib.hid (fun (hB : loopB g = true) W (h : Ext w W) => by
    obtain ⟨n, hn, i0, ir, h1, h2, h3, h4, h5, h6, h7⟩ := Pl.lpN_ok hB
    have q := round_any d v g.1 g.2 i0 ir n W (hv.ext h) hn h4 h5 (by omega)
    have e : Pl.rndL g = Pl.roundL n i0 (g.1[n]).body := by unfold Pl.rndL; rw [if_pos hB, h3, h4, h1]; rfl
    rw [← e, ← h2] at q
    exact q)
  have HRE := Lib.hid (show Pl.rndL g = if loopB g = true then Pl.rndL g else [] from by
    by_cases q : loopB g = true
    · rw [if_pos q]
    · rw [if_neg q]; unfold Pl.rndL; rw [if_neg q])
  have HLPI := Lib.hid (show (g.1, g.2) = g from rfl)
  rw [show (g.1, g.2) = g from rfl] at HLP
  have HA0 := Lib.hid (show Pl.Arcs0 g = (gPl g).flatMap (Pl.arcsP g) ++ Pl.rndL g from rfl)
  have HAP := Lib.hid (show ∀ p, Pl.arcsP g p = (gUs g p).map (Pl.arcU p) from fun _ => rfl)
  have HLN := Lib.hid hlen
  have hpn := Pl.gPl_len g
  obtain ⟨l, out⟩ := g
  generalize loopI (l, out) = LI at *
  generalize loopB (l, out) = LB at *
  generalize Pl.rndL (l, out) = RL at *
  generalize Pl.Arcs0 (l, out) = A0 at *
  generalize gPl (l, out) = PL at *
  generalize gUs (l, out) = US at *
  generalize Pl.arcsP (l, out) = AP at *
  have HPN := Lib.hid hpn
  have HFB := Lib.hid (show (PL.flatMap AP).length ≤ 5000 ∧ RL.length ≤ 5000 ∧ ((PL.flatMap AP).length + RL.length) ≤ 5000 from by
    have h1 := HLN.out
    rw [HA0.out, List.length_append] at h1
    exact ⟨by omega, by omega, by omega⟩)
  simp only at HPL HUS HLP HRN hv
  obtain ⟨A, c, rfl⟩ := hv.form
  have HX0 := Lib.hid ((Ext.refl w).alloc (gCs (.slice A l.length c) out))
  have HB0 := Lib.hid (Blk.new w 24 #[.slice A l.length c, .int .i64 out])
  clear hlen hv hpn
  go_enter Try.func9, Try.ntmps9
  go_upto_region 1 with fail
  obtain ⟨p, hp⟩ : ∃ p, p = w.heap.size := ⟨_, rfl⟩
  rw [← hp] at HB0 ⊢
  have HPS := Lib.hid hp
  clear hp
  generalize w.alloc (gCs (.slice A l.length c) out) = w0 at *
  have c0 : w0.cell? ⟨p, 0, none⟩ = some (.slice A l.length c) := HB0.out.cell 0
  have c1 : w0.cell? ⟨p, 1, none⟩ = some (.int .i64 out) := HB0.out.cell 1
  go_wp2_with fail
  refine (HPL.out w0 HX0.out).mono ?_
  rintro e w1 ⟨uv, rfl, huv, he1⟩
  obtain ⟨AV, cV, rfl⟩ := huv.form
  have HV := Lib.hid huv
  have HX1 := Lib.hid (HX0.out.trans he1)
  have HB1 := Lib.hid (HB0.out.ext he1)
  have HPB := Lib.hid (show p < w1.heap.size ∧ w.heap.size ≤ w1.heap.size from ⟨HB1.out.lt, HX1.out.size⟩)
  clear c0 c1 huv he1 HB0 HX0
  go_wp2
  go_loopw [3, 13] (fun o iv wr => ∃ k : Nat, k ≤ PL.length ∧ iv = .int .i64 (k : Int) ∧ OE 39 w1.heap.size wr o ((PL.take k).flatMap AP) ∧ Ext w1 wr) (fun _ iv _ => PL.length - (intOf iv).toNat)
  case atStart => exact ⟨0, Nat.zero_le _, rfl, OE.nilS _ _ _, Ext.refl _⟩
  case round =>
    obtain ⟨k, hk, rfl, ho, hx⟩ := hrel
    rename World => wr
    have HO := Lib.hid ho
    have HX := Lib.hid hx
    obtain ⟨AO, cO, hvo⟩ := ho.re.form
    have HBW := Lib.hid (HB1.out.ext hx)
    have HVW := Lib.hid (HV.out.ext hx)
    have HXW := Lib.hid (HX1.out.trans hx)
    clear ho hx
    by_cases hlt : k < PL.length
    · have r1 : (k : Int) < (PL.length : Int) := by omega
      have HLT := Lib.hid hlt
      obtain ⟨bB, oB, hAV, hcV⟩ := RE.at_ HVW.out hlt
      have HTK := Lib.hid (Pl.flatk AP PL hlt)
      have HPR := Lib.hid (show ∀ j, ((PL.take k).flatMap AP ++ (AP PL[k]).take j).length ≤ 5000 from fun j => Nat.le_trans (Pl.pre_len AP PL hlt j) HFB.out.1)
      generalize PL[k] = y at *
      have HAY := Lib.hid (HAP.out y)
      have HUY := Lib.hid (HUS.out y)
      generalize AP y = APY at *
      generalize US y = USY at *
      obtain ⟨y1, y2⟩ := y
      obtain ⟨FK, hFK⟩ : ∃ FK : List Pl.Ar, FK = (PL.take k).flatMap AP := ⟨_, rfl⟩
      rw [← hFK] at HO hvo HTK HPR
      clear hFK
      have HFK := Lib.hid (show FK.length ≤ 5000 from by have := HPR.out 0; rw [List.length_append] at this; omega)
      have k0 : wr.cell? ⟨bB, oB + k * 2, none⟩ = some (.int .i64 y1) := hcV 0 _ rfl
      have k1 : wr.cell? ⟨bB, oB + k * 2 + 1, none⟩ = some (.int .i64 y2) := hcV 1 _ rfl
      subst hAV
      subst hvo
      have HXN := Lib.hid ((Ext.refl wr).alloc (.cells #[.int .i64 y1, .int .i64 y2] 26))
      have HYN := Lib.hid (Blk.new wr 26 #[.int .i64 y1, .int .i64 y2])
      clear hcV hlt hk
      go_upto_region 5 with fail
      clear k0 k1
      obtain ⟨q, hq⟩ : ∃ q, q = wr.heap.size := ⟨_, rfl⟩
      rw [← hq] at HYN ⊢
      have HQ := Lib.hid (show q = wr.heap.size from hq)
      clear hq
      have HO1 := Lib.hid (HO.out.ext HXN.out)
      have HB2 := Lib.hid (HBW.out.ext HXN.out)
      have HX2 := Lib.hid (HXW.out.trans HXN.out)
      have HXE := Lib.hid (HX.out.trans HXN.out)
      generalize wr.alloc (.cells #[.int .i64 y1, .int .i64 y2] 26) = w5 at *
      have a0 : w5.cell? ⟨p, 0, none⟩ = some (.slice A l.length c) := HB2.out.cell 0
      have a1 : w5.cell? ⟨p, 1, none⟩ = some (.int .i64 out) := HB2.out.cell 1
      have d0 : w5.cell? ⟨q, 0, none⟩ = some (.int .i64 y1) := HYN.out.cell 0
      have d1 : w5.cell? ⟨q, 1, none⟩ = some (.int .i64 y2) := HYN.out.cell 1
      go_wp2_with fail
      refine (HUY.out w5 HX2.out).mono ?_
      rintro e w6 ⟨uu, rfl, huu, he6⟩
      obtain ⟨AU, cU, rfl⟩ := huu.re.form
      have HO6 := Lib.hid (HO1.out.ext he6)
      have HY6 := Lib.hid (HYN.out.ext he6)
      have HX6 := Lib.hid (HXE.out.trans he6)
      have HQW := Lib.hid (show ∀ i, (Value.slice AO FK.length cO).ownBlock = some i → w1.heap.size ≤ i ∧ i < q from fun i hi => by rw [HQ.out]; exact HO.out.own.lt i hi)
      have HU6 := Lib.hid (show ∀ W, ExtQ (fun i => (Value.slice AO FK.length cO).ownBlock = some i) w6 W → RE W (.slice AU USY.length cU) USY from fun W hW => (OE.extK huu hW (fun i hi e => by
        have h1 := (huu.own.lt i hi).1
        have h2 := (HO1.out.own.lt i e).2
        omega)).re)
      clear huu he6 a0 a1 d0 d1 HVW HBW HO HX HO1
      obtain ⟨R0, hR0⟩ : ∃ R0 : Nat → Prop, R0 = fun i => (Value.slice AO FK.length cO).ownBlock = some i := ⟨_, rfl⟩
      have HR0 := Lib.hid (show ∀ i, R0 i ↔ ((Value.slice AO FK.length cO).ownBlock = some i) from fun i => by rw [hR0])
      rw [← hR0] at HU6
      clear hR0
      go_wp2
      go_loopw [3, 21] (fun o iv wx => ∃ j : Nat, j ≤ USY.length ∧ iv = .int .i64 (j : Int) ∧ OE 39 w1.heap.size wx o (FK ++ APY.take j) ∧ ExtQ R0 w6 wx ∧ (∀ q, o.ownBlock = some q → R0 q ∨ w6.heap.size ≤ q)) (fun _ iv _ => USY.length - (intOf iv).toNat)
      case atStart => exact ⟨0, Nat.zero_le _, rfl, by simpa using HO6.out, ExtQ.refl _ _, fun q hq => .inl ((HR0.out q).2 hq)⟩
      case round =>
        obtain ⟨j, hj, rfl, ho, hx, hob⟩ := hrel
        rename World => wx
        have HO := Lib.hid ho
        have HX := Lib.hid hx
        have HOB := Lib.hid hob
        obtain ⟨AX, cX, hvo⟩ := ho.re.form
        have HUW := Lib.hid (HU6.out wx hx)
        have HYW := Lib.hid (HY6.out.extQ hx (fun e => by
          have h2 := (HQW.out _ ((HR0.out _).1 e)).2
          omega))
        clear ho hx hob
        by_cases hlt : j < USY.length
        · have r1 : (j : Int) < (USY.length : Int) := by omega
          have HJT := Lib.hid hlt
          obtain ⟨bU, oU, hAU, hcU⟩ := RE.at_ HUW.out hlt
          have HMK := Lib.hid (show APY.take (j + 1) = APY.take j ++ [Pl.arcU (y1, y2) USY[j]] from by rw [HAY.out, ← List.map_take, ← List.map_take]; exact Pl.mapk _ _ hlt)
          generalize USY[j] = z at *
          obtain ⟨⟨z1, z2⟩, z3⟩ := z
          obtain ⟨FM, hFM⟩ : ∃ FM : List Pl.Ar, FM = FK ++ APY.take j := ⟨_, rfl⟩
          have HFM := Lib.hid (show FM.length ≤ 5000 ∧ FK ++ APY.take (j + 1) = FM ++ [Pl.arcU (y1, y2) ((z1, z2), z3)] from ⟨by rw [hFM]; exact HPR.out j, by rw [HMK.out, hFM, List.append_assoc]⟩)
          rw [← hFM] at HO hvo
          clear hFM HMK
          have k0 : wx.cell? ⟨bU, oU + j * 3, none⟩ = some (.int .i64 z1) := hcU 0 _ rfl
          have k1 : wx.cell? ⟨bU, oU + j * 3 + 1, none⟩ = some (.int .i64 z2) := hcU 1 _ rfl
          have k2 : wx.cell? ⟨bU, oU + j * 3 + 2, none⟩ = some (.int .i64 z3) := hcU 2 _ rfl
          subst hAU
          subst hvo
          have HXZ := Lib.hid ((Ext.refl wx).alloc (.cells #[.int .i64 z1, .int .i64 z2, .int .i64 z3] 61))
          have HZN := Lib.hid (Blk.new wx 61 #[.int .i64 z1, .int .i64 z2, .int .i64 z3])
          clear hcU hlt hj
          go_upto_region 8 with fail
          clear k0 k1 k2
          obtain ⟨qz, hqz⟩ : ∃ q, q = wx.heap.size := ⟨_, rfl⟩
          rw [← hqz] at HZN ⊢
          clear hqz
          have HO7 := Lib.hid (HO.out.ext HXZ.out)
          have HY7 := Lib.hid (HYW.out.ext HXZ.out)
          have HX7 := Lib.hid HXZ.out
          generalize wx.alloc (.cells #[.int .i64 z1, .int .i64 z2, .int .i64 z3] 61) = w7 at *
          have d0 : w7.cell? ⟨q, 0, none⟩ = some (.int .i64 y1) := HY7.out.cell 0
          have d1 : w7.cell? ⟨q, 1, none⟩ = some (.int .i64 y2) := HY7.out.cell 1
          have b0 : w7.cell? ⟨qz, 0, none⟩ = some (.int .i64 z1) := HZN.out.cell 0
          have b1 : w7.cell? ⟨qz, 1, none⟩ = some (.int .i64 z2) := HZN.out.cell 1
          have b2 : w7.cell? ⟨qz, 2, none⟩ = some (.int .i64 z3) := HZN.out.cell 2
          obtain ⟨st, hst⟩ : ∃ b : Bool, b = (y2 == -1 && z2 != -1) := ⟨_, rfl⟩
          have HAU := Lib.hid (show Pl.arcU (y1, y2) ((z1, z2), z3) = ((((y1, y2), (z1, z2)), (st, (0 : Int))) : Pl.Ar) from by rw [hst]; rfl)
          have HST := Lib.hid hst
          have HL1 := Lib.hid (RE.lit w7 #[.int .i64 y1, .int .i64 y2, .int .i64 z1, .int .i64 z2, .bool st, .int .i64 0] 39 1 [((((y1, y2), (z1, z2)), (st, (0 : Int))) : Pl.Ar)] rfl (by omega) rfl)
          have HXA := Lib.hid ((Ext.refl w7).alloc (.cells #[.int .i64 y1, .int .i64 y2, .int .i64 z1, .int .i64 z2, .bool st, .int .i64 0] 39))
          have HOL := Lib.hid (HO7.out.ext HXA.out)
          have HXB := Lib.hid (HX7.out.trans HXA.out)
          have hj9 : (j : Int) + 1 ≤ 1000000 := by have h1 := HJT.out; have h2 := HPR.out USY.length; have h3 := congrArg List.length HAY.out; rw [List.length_append, List.length_take] at h2; rw [List.length_map] at h3; omega
          clear hst
          by_cases t1 : y2 = -1
          · have HT1 := Lib.hid t1
            have t2 : (y2 == -1) = true := by simpa using t1
            have t3 : (z2 != -1) = st := by rw [HST.out, t2]; simp
            clear t1
            go_wp2_with (at_builtin; refine wpList_appEA rfl elemA _ _ _ rfl w1.heap.size _ _ FM [((((y1, y2), (z1, z2)), (st, (0 : Int))) : Pl.Ar)] rfl HOL.out rfl HL1.out (by have h1 := HFM.out.1; simp; omega) (by have h1 := HFM.out.1; unfold maxLen; simp; omega) (by have h1 := HX6.out.size; have h2 := HX.out.size; have h3 := HXB.out.size; omega) ?_; intro v9 w9 ho9 hg9 hat9)
            obtain ⟨hx9, hob9⟩ := stepR HX.out HOB.out HXB.out hg9 hat9
            exact ⟨⟨j + 1, HJT.out, by go_num, by rw [HFM.out.2, HAU.out]; exact ho9, hx9, hob9⟩, by have := HJT.out; simp [intOf]; omega⟩
          · have t2 : (y2 == -1) = false := by simpa using t1
            have HSF := Lib.hid (show st = false from by rw [HST.out, t2]; rfl)
            clear t1
            obtain rfl := HSF.out
            go_wp2_with (at_builtin; refine wpList_appEA rfl elemA _ _ _ rfl w1.heap.size _ _ FM [((((y1, y2), (z1, z2)), (false, (0 : Int))) : Pl.Ar)] rfl HOL.out rfl HL1.out (by have h1 := HFM.out.1; simp; omega) (by have h1 := HFM.out.1; unfold maxLen; simp; omega) (by have h1 := HX6.out.size; have h2 := HX.out.size; have h3 := HXB.out.size; omega) ?_; intro v9 w9 ho9 hg9 hat9)
            obtain ⟨hx9, hob9⟩ := stepR HX.out HOB.out HXB.out hg9 hat9
            exact ⟨⟨j + 1, HJT.out, by go_num, by rw [HFM.out.2, HAU.out]; exact ho9, hx9, hob9⟩, by have := HJT.out; simp [intOf]; omega⟩
        · have r1 : ¬ (j : Int) < (USY.length : Int) := by omega
          obtain rfl : j = USY.length := by omega
          have HFF := Lib.hid (show FK ++ APY.take USY.length = (PL.take (k + 1)).flatMap AP from by
            rw [HTK.out, List.take_of_length_le (by rw [HAY.out, List.length_map]; exact Nat.le_refl _)])
          have HF := Lib.hid (show OE 39 w1.heap.size wx _ ((PL.take (k + 1)).flatMap AP) from by rw [← HFF.out]; exact HO.out)
          have HG := Lib.hid (show Ext w1 wx from HX6.out.andQ HX.out (fun i hi => (HQW.out i ((HR0.out i).1 hi)).1))
          have hk9 : (k : Int) + 1 ≤ 1000000 := by have h1 := HLT.out; have h2 := HPN.out; omega
          clear hj hlt hvo
          go_wp2
          exact ⟨⟨k + 1, HLT.out, by go_num, HF.out, HG.out⟩, by have := HLT.out; simp [intOf]; omega⟩
    · have r1 : ¬ (k : Int) < (PL.length : Int) := by omega
      obtain rfl : k = PL.length := by omega
      rw [List.take_length] at HO hvo
      obtain ⟨FK, hFK⟩ : ∃ FK : List Pl.Ar, FK = PL.flatMap AP := ⟨_, rfl⟩
      rw [← hFK] at HO hvo HFB HA0
      subst hvo
      have a0 : wr.cell? ⟨p, 0, none⟩ = some (.slice A l.length c) := HBW.out.cell 0
      have a1 : wr.cell? ⟨p, 1, none⟩ = some (.int .i64 out) := HBW.out.cell 1
      clear hlt hk hFK
      go_wp2_with fail
      refine (HLP.out wr HXW.out).mono ?_
      rintro e w6 ⟨rfl, he6⟩
      have HB6 := Lib.hid (HBW.out.ext he6)
      have HX6 := Lib.hid (HX.out.trans he6)
      have HO6 := Lib.hid (HO.out.ext he6)
      have HXW6 := Lib.hid (HXW.out.trans he6)
      clear he6 a0 a1 HO HX HBW HVW HXW
      cases LB with
      | false =>
        have HFN := Lib.hid (show FK.length ≤ 5000 ∧ FK = A0 from ⟨HFB.out.1, by rw [HA0.out, HRE.out]; simp⟩)
        obtain ⟨FN, hFN⟩ : ∃ FN, FN = FK := ⟨_, rfl⟩
        rw [← hFN] at HFN HO6 ⊢
        have HON := Lib.hid HO6.out
        have HXN := Lib.hid HX6.out
        clear hFN HO6 HX6
        go_wp2_with fail
        refine (sortStable_any _ FN w1.heap.size _ HON.out (by have := HFN.out.1; omega)).mono ?_
        rintro e w8 ⟨rfl, s, hsp, hss, hos, hgs⟩
        have HSP := Lib.hid (show s.Perm A0 from by rw [← HFN.out.2]; exact hsp)
        have HSS := Lib.hid (srtd_of hss)
        have HSL := Lib.hid (show s.length ≤ 5000 ∧ FN.length = s.length from ⟨by rw [hsp.length_eq]; exact HFN.out.1, hsp.length_eq.symm⟩)
        have HOS := Lib.hid hos
        have HXS := Lib.hid (HXN.out.grown hgs fun i hi => (HON.out.own.lt i hi).1)
        clear hsp hss hos hgs
        go_wp2_with fail
        refine (compact_any _ s w1.heap.size _ HOS.out (by have := HSL.out.1; omega)).mono ?_
        rintro e w9 ⟨vr, rfl, hor, hgr⟩
        have HOR := Lib.hid (OE.low hor HPB.out.2)
        have HXR := Lib.hid (HX1.out.trans (HXS.out.grown hgr fun i hi => (HOS.out.own.lt i hi).1))
        clear hor hgr
        go_wp2
        go_ret
        exact ⟨_, s, rfl, HSP.out, HSS.out, HOR.out, HXR.out⟩
      | true =>
        have HLB := Lib.hid (HRN.out rfl)
        have a0 : w6.cell? ⟨p, 0, none⟩ = some (.slice A l.length c) := HB6.out.cell 0
        have a1 : w6.cell? ⟨p, 1, none⟩ = some (.int .i64 out) := HB6.out.cell 1
        go_wp2_with fail
        refine (HLB.out w6 HXW6.out).mono ?_
        rintro e w7 ⟨ur, rfl, hur, he7⟩
        have HO7 := Lib.hid (HO6.out.ext he7)
        have HX7 := Lib.hid (HX6.out.trans he7)
        have HUR := Lib.hid hur.re
        obtain ⟨AR, cR, rfl⟩ := hur.re.form
        clear hur he7 a0 a1
        go_wp2_with (at_builtin; refine wpList_appEA rfl elemA _ _ _ rfl w1.heap.size _ _ FK RL rfl HO7.out rfl HUR.out (by have h1 := HFB.out; omega) (by have h1 := HFB.out; unfold maxLen; omega) HX7.out.size ?_; intro vn wn hon hgn hatn)
        have HXN := Lib.hid (HX7.out.grown hgn fun i hi => (HO7.out.own.lt i hi).1)
        have HFN := Lib.hid (show (FK ++ RL).length ≤ 5000 ∧ FK ++ RL = A0 from ⟨by rw [List.length_append]; exact HFB.out.2.2, by rw [HA0.out]⟩)
        generalize FK ++ RL = FN at *
        have HON := Lib.hid hon
        obtain ⟨AN, cN, rfl⟩ := hon.re.form
        clear hon hgn hatn
        go_wp2_with fail
        refine (sortStable_any _ FN w1.heap.size _ HON.out (by have := HFN.out.1; omega)).mono ?_
        rintro e w8 ⟨rfl, s, hsp, hss, hos, hgs⟩
        have HSP := Lib.hid (show s.Perm A0 from by rw [← HFN.out.2]; exact hsp)
        have HSS := Lib.hid (srtd_of hss)
        have HSL := Lib.hid (show s.length ≤ 5000 ∧ FN.length = s.length from ⟨by rw [hsp.length_eq]; exact HFN.out.1, hsp.length_eq.symm⟩)
        have HOS := Lib.hid hos
        have HXS := Lib.hid (HXN.out.grown hgs fun i hi => (HON.out.own.lt i hi).1)
        clear hsp hss hos hgs
        go_wp2_with fail
        refine (compact_any _ s w1.heap.size _ HOS.out (by have := HSL.out.1; omega)).mono ?_
        rintro e w9 ⟨vr, rfl, hor, hgr⟩
        have HOR := Lib.hid (OE.low hor HPB.out.2)
        have HXR := Lib.hid (HX1.out.trans (HXS.out.grown hgr fun i hi => (HOS.out.own.lt i hi).1))
        clear hor hgr
        go_wp2
        go_ret
        exact ⟨_, s, rfl, HSP.out, HSS.out, HOR.out, HXR.out⟩
end Go.Proofs.Ytcacicgkebcdkaa
