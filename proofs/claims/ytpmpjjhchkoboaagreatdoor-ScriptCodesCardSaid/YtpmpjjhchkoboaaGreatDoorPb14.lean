/-
  GrGetRN, GrGetLaw, GrNamed, GrUsersR, GrDeep, packed: what the claim needs of them.
-/
import Derived.Test.YtpmpjjhchkoboaaGreatDoorPb13
import Derived.Deep.DeepCutAuto
import Derived.Test.YtpmpjjhchkoboaaGreatDoorPb11
import Derived.Test.YtpmpjjhchkoboaaGreatDoorPb10
import Derived.Test.YtpmpjjhchkoboaaGreatDoorPb08
import Derived.Test.YtpmpjjhchkoboaaGreatDoorPb06
import Derived.BigRegion
import Derived.BigQuiet
import Derived.Deep.RegionWith
set_option linter.unusedSimpArgs false
set_option linter.unusedVariables false
set_option maxRecDepth 100000
namespace Go.Ox.Gr
open Go.Ox.Num (St numP)
theorem nodeR_eq (d : Nat) (s : St) : nodeR d s =
    ((itrR (nodeR (d - 1)) (cntR (mostP d) (numP (numP (numP (numsR (cntR 2 (numP s).1).2 (cntR 2 (numP s).1).1).1).1).1).1).2 (cntR (mostP d) (numP (numP (numP (numsR (cntR 2 (numP s).1).2 (cntR 2 (numP s).1).1).1).1).1).1).1).1,
     .mk ((numP s).2 : Nat) (numsR (cntR 2 (numP s).1).2 (cntR 2 (numP s).1).1).2 ((numP (numsR (cntR 2 (numP s).1).2 (cntR 2 (numP s).1).1).1).2 : Nat) ((numP (numP (numsR (cntR 2 (numP s).1).2 (cntR 2 (numP s).1).1).1).1).2 : Nat) ((numP (numP (numP (numsR (cntR 2 (numP s).1).2 (cntR 2 (numP s).1).1).1).1).1).2 : Nat)
      (itrR (nodeR (d - 1)) (cntR (mostP d) (numP (numP (numP (numsR (cntR 2 (numP s).1).2 (cntR 2 (numP s).1).1).1).1).1).1).2 (cntR (mostP d) (numP (numP (numP (numsR (cntR 2 (numP s).1).2 (cntR 2 (numP s).1).1).1).1).1).1).1).2) := by
  cases d with
  | succ d => rw [nodeR]; rfl
  | zero =>
    have h : ∀ t : St, itrR (nodeR (0 - 1)) (cntR (mostP 0) t).2 (cntR (mostP 0) t).1 = ((cntR (mostP 0) t).1, []) := fun t => by
      by_cases h0 : (cntR (mostP 0) t).2 = 0
      · rw [h0]; rfl
      · refine itrR_stop ?_ _
        unfold cntR mostP at h0 ⊢
        simp only at h0 ⊢
        have : (0 : Int) < ((numP t).2 : Int) := by omega
        rw [decide_eq_true this, Bool.or_true]
    rw [h, nodeR]
theorem numsR_go {s : St} (h : s.bad = false) (n : Nat) : numsR (n + 1) s = ((numsR n (numP s).1).1, ((numP s).2 : Int) :: (numsR n (numP s).1).2) := by rw [numsR, if_neg (by rw [h]; simp)]
theorem itrR_go {f : St → St × Nd} {s : St} (h : s.bad = false) (n : Nat) : itrR f (n + 1) s = ((itrR f n (f s).1).1, (f s).2 :: (itrR f n (f s).1).2) := by rw [itrR, if_neg (by rw [h]; simp)]
end Go.Ox.Gr
namespace Go.Proofs.YtpmpjjhchkoboaaGreatDoor
open Go.RowKit Go.Ox Go.Ox.Gr
attribute [local irreducible] RE OE NodesR
structure RRd (K : Nat → Prop) (B g : Nat) (w : World) (s : Num.St) : Prop where
  nr : RR K w g s
  lg : g < B
  lk : ∀ b, K b → b < B
section
variable {K : Nat → Prop} {B B' g : Nat} {w w' : World} {s s1 : Num.St}
theorem RRd.extQ (h : RRd K B g w s) (he : ExtQ (fun k => B ≤ k) w w') : RRd K B g w' s :=
  ⟨h.nr.kept fun k hk hor => he.block k hk (fun q => by
    have q : B ≤ k := q
    rcases hor with hor | hor
    · have := h.lk k hor; omega
    · have := h.lg; omega), h.lg, h.lk⟩
theorem RRd.ext (h : RRd K B g w s) (he : Ext w w') : RRd K B g w' s := h.extQ (ExtQ.of he)
theorem RRd.up (h : RRd K B g w s) (hb : B ≤ B') : RRd K B' g w s := ⟨h.nr, Nat.lt_of_lt_of_le h.lg hb, fun b hk => Nat.lt_of_lt_of_le (h.lk b hk) hb⟩
theorem RRd.num (h : RRd K B g w s) (hr : RR K w' g s1) : RRd K B g w' s1 := ⟨hr, h.lg, h.lk⟩
theorem RRd.mark (h : RRd K B g w s) : RRd K B g (w.setCell ⟨g, 1, none⟩ (.bool true)) ⟨s.l, true⟩ := ⟨(h.nr.setMark true).1, h.lg, h.lk⟩
theorem RRd.down {s' : Num.St} (h : RRd K B' g w' s') (k : RRd K B g w s) : RRd K B g w' s' := ⟨h.nr, k.lg, k.lk⟩
theorem RRd.at_ (h : RRd K B g w s) : w.cell? ⟨g, 1, none⟩ = some (.bool s.bad) ∧ w.frozen? ⟨g, 1, none⟩ = false := ⟨h.nr.mark.1, h.nr.mark.2.1⟩
end
abbrev RY (B g : Nat) (w w' : World) : Prop := ExtQ (fun k => k = g ∨ B ≤ k) w w'
end Go.Proofs.YtpmpjjhchkoboaaGreatDoor
namespace Go.Ox.Gr
end Go.Ox.Gr
namespace Go.Proofs.YtpmpjjhchkoboaaGreatDoor
open Go.RowKit Go.Ox Go.Ox.Gr
attribute [local irreducible] RE OE NodesR
structure RB2 (K : Nat → Prop) (r q g : Nat) (w0 w : World) (s : Num.St) (op : Int) (u : Value) (kind fa a : Int) (b : Value) : Prop where
  bq : Bx6 w q 112 (.int .i64 op) u (.int .i64 kind) (.int .i64 fa) (.int .i64 a) b
  br : Bx6 w r 112 (.int .i64 0) (.slice none 0 0) (.int .i64 0) (.int .i64 0) (.int .i64 0) (.slice none 0 0)
  rd : RRd K r g w s
  ry : RY r g w0 w
  er : w0.heap.size = r
  lt : r < q
section
variable {K : Nat → Prop} {r q g : Nat} {w0 w w' : World} {s s' : Num.St} {op kind fa a : Int} {u b v : Value}
theorem RB2.ext (h : RB2 K r q g w0 w s op u kind fa a b) (he : Ext w w') : RB2 K r q g w0 w' s op u kind fa a b := ⟨h.bq.ext he, h.br.ext he, h.rd.ext he, h.ry.trans (ExtQ.of he), h.er, h.lt⟩
theorem RB2.num (h : RB2 K r q g w0 w s op u kind fa a b) (hr : RR K w' g s') (he : ExtG g w w') : RB2 K r q g w0 w' s' op u kind fa a b :=
  have hx : ExtQ (fun k => k = g) w w' := ExtQ.extG he rfl
  have hg := h.rd.lg
  have hl := h.lt
  ⟨Bx6.extQ h.bq hx (fun e => by have e : q = g := e; omega), Bx6.extQ h.br hx (fun e => by have e : r = g := e; omega), h.rd.num hr, h.ry.trans (hx.mono fun k hk => .inl hk), h.er, h.lt⟩
theorem RB2.mark (h : RB2 K r q g w0 w s op u kind fa a b) : RB2 K r q g w0 (w.setCell ⟨g, 1, none⟩ (.bool true)) ⟨s.l, true⟩ op u kind fa a b :=
  have hx : ExtQ (fun k => k = g) w (w.setCell ⟨g, 1, none⟩ (.bool true)) := ExtQ.setCell (Q := fun k => k = g) (ExtQ.refl _ _) (p := ⟨g, 1, none⟩) rfl _
  have hg := h.rd.lg
  have hl := h.lt
  ⟨Bx6.extQ h.bq hx (fun e => by have e : q = g := e; omega), Bx6.extQ h.br hx (fun e => by have e : r = g := e; omega), h.rd.mark, h.ry.trans (hx.mono fun k hk => .inl hk), h.er, h.lt⟩
theorem RB2.extQ {Q : Nat → Prop} (h : RB2 K r q g w0 w s op u kind fa a b) (he : ExtQ Q w w') (hq : ∀ k, Q k → r ≤ k ∧ k ≠ q ∧ k ≠ r) : RB2 K r q g w0 w' s op u kind fa a b :=
  ⟨Bx6.extQ h.bq he (fun e => (hq _ e).2.1 rfl), Bx6.extQ h.br he (fun e => (hq _ e).2.2 rfl), h.rd.extQ (he.mono fun k hk => (hq k hk).1), h.ry.trans (he.mono fun k hk => .inr (hq k hk).1), h.er, h.lt⟩
theorem RB2.setq (h : RB2 K r q g w0 w s op u kind fa a b) (i : Nat) : ExtQ (fun k => k = q) w (w.setCell ⟨q, i, none⟩ v) := ExtQ.setCell (Q := fun k => k = q) (ExtQ.refl _ _) (p := ⟨q, i, none⟩) rfl _
theorem RB2.stay (h : RB2 K r q g w0 w s op u kind fa a b) (i : Nat) : Bx6 (w.setCell ⟨q, i, none⟩ v) r 112 (.int .i64 0) (.slice none 0 0) (.int .i64 0) (.int .i64 0) (.int .i64 0) (.slice none 0 0) ∧ RRd K r g (w.setCell ⟨q, i, none⟩ v) s ∧ RY r g w0 (w.setCell ⟨q, i, none⟩ v) :=
  have hl := h.lt
  ⟨Bx6.extQ h.br (h.setq i) (fun e => by have e : r = q := e; omega), h.rd.extQ ((h.setq i).mono fun k (hk : k = q) => by show r ≤ k; omega), h.ry.trans ((h.setq i).mono fun k (hk : k = q) => .inr (by omega))⟩
theorem RB2.set1 (h : RB2 K r q g w0 w s op u kind fa a b) (v : Value) : RB2 K r q g w0 (w.setCell ⟨q, 1, none⟩ v) s op v kind fa a b := ⟨h.bq.set1 v, (h.stay 1).1, (h.stay 1).2.1, (h.stay 1).2.2, h.er, h.lt⟩
theorem RB2.set4 (h : RB2 K r q g w0 w s op u kind fa a b) (x : Int) : RB2 K r q g w0 (w.setCell ⟨q, 4, none⟩ (.int .i64 x)) s op u kind fa x b := ⟨⟨by simpa using h.bq.b.set_ 4 (.int .i64 x)⟩, (h.stay 4).1, (h.stay 4).2.1, (h.stay 4).2.2, h.er, h.lt⟩
theorem RB2.set5 (h : RB2 K r q g w0 w s op u kind fa a b) (v : Value) : RB2 K r q g w0 (w.setCell ⟨q, 5, none⟩ v) s op u kind fa a v := ⟨h.bq.set5 v, (h.stay 5).1, (h.stay 5).2.1, (h.stay 5).2.2, h.er, h.lt⟩
end
structure FNd (D N : Nat) (xop xkind xfa xa : Int) (xins : List Int) (xbody : List Nd) (v : Value) (w : World) : Prop where
  ex : ∃ A c B e, v = ndAg xop xkind xfa xa (.slice A xins.length c) (.slice B xbody.length e) ∧ ∀ W, ExtQ (fun k => k < N) w W → RE W (.slice A xins.length c) xins ∧ NodesR D W (.slice B xbody.length e) xbody
structure FNl (D N : Nat) (xop xkind xfa xa : Int) (xins : List Int) (xbody : List Nd) (v : Value) (w : World) : Prop where
  ex : ∃ A c B e, Rd w 6 v 1 [.int .i64 xop, .slice A xins.length c, .int .i64 xkind, .int .i64 xfa, .int .i64 xa, .slice B xbody.length e] ∧ ∀ W, ExtQ (fun k => k < N) w W → RE W (.slice A xins.length c) xins ∧ NodesR D W (.slice B xbody.length e) xbody
theorem FNd.ext {D N : Nat} {xop xkind xfa xa : Int} {xins : List Int} {xbody : List Nd} {v : Value} {w w' : World} (h : FNd D N xop xkind xfa xa xins xbody v w) (he : Ext w w') : FNd D N xop xkind xfa xa xins xbody v w' := by
  obtain ⟨A, c, B, e, h1, h2⟩ := h.ex
  exact ⟨A, c, B, e, h1, fun W hW => h2 W ((ExtQ.of he).trans hW)⟩
theorem FNl.ext {D N : Nat} {xop xkind xfa xa : Int} {xins : List Int} {xbody : List Nd} {v : Value} {w w' : World} (h : FNl D N xop xkind xfa xa xins xbody v w) (he : Ext w w') : FNl D N xop xkind xfa xa xins xbody v w' := by
  obtain ⟨A, c, B, e, h1, h2⟩ := h.ex
  exact ⟨A, c, B, e, Rd.ext h1 he, fun W hW => h2 W ((ExtQ.of he).trans hW)⟩
end Go.Proofs.YtpmpjjhchkoboaaGreatDoor
namespace Go.Ox.Gr
open Go.Ox.Num (St numP failP)
theorem numC {s : St} (h : (numP s).1.bad = false) : s.bad = false ∧ s.l = Num.put (numP s).2 ++ (numP s).1.l ∧ (numP s).2 < 9223372036854775808 := Num.numP_canon (s := s) (t := (numP s).1) (n := (numP s).2) rfl h
attribute [local irreducible] Num.numP
theorem numP_stays {s : St} (h : s.bad = true) : (numP s).1.bad = true := by
  cases hb : (numP s).1.bad with
  | true => rfl
  | false =>
    have := (numC hb).1
    rw [h] at this; cases this
def bd (S : PS) : Bool := S.gb || S.s.bad
def Sim (S : PS) (s : St) : Prop := bd S = s.bad ∧ (s.bad = false → S.gb = false ∧ S.s = s)
theorem Sim.badS {S : PS} {s : St} (h : Sim S s) (hb : s.bad = true) : S.gb = true ∨ S.s.bad = true := by
  have := h.1
  rw [hb] at this
  unfold bd at this
  simpa using this
theorem Sim.mkBad {S : PS} {s : St} (h : S.gb = true ∨ S.s.bad = true) (hb : s.bad = true) : Sim S s :=
  ⟨by unfold bd; rw [hb]; simpa using h, fun q => by rw [hb] at q; cases q⟩
theorem Sim.mkGood (s : St) : Sim ⟨s, false⟩ s := ⟨by simp [bd], fun _ => ⟨rfl, rfl⟩⟩
theorem PS.eta {S : PS} {s : St} (h1 : S.gb = false) (h2 : S.s = s) : S = ⟨s, false⟩ := by cases S; simp at h1 h2; subst h1; subst h2; rfl
theorem Sim.num {S : PS} {s : St} (h : Sim S s) : Sim ⟨(numP S.s).1, S.gb⟩ (numP s).1 := by
  cases hs : s.bad with
  | true =>
    refine Sim.mkBad ?_ (numP_stays hs)
    rcases h.badS hs with q | q
    · exact .inl q
    · exact .inr (numP_stays q)
  | false =>
    obtain ⟨h1, h2⟩ := h.2 hs
    rw [h1, h2]
    exact Sim.mkGood _
theorem num_back {s : St} (h : (numP s).1.bad = false) : s.bad = false := by
  cases hs : s.bad with
  | false => rfl
  | true => rw [numP_stays hs] at h; cases h
theorem cnt_back {m : Int} {s : St} (h : (cntR m s).1.bad = false) : s.bad = false ∧ ((numP s).2 : Int) ≤ m := by
  unfold cntR at h
  simp only [Bool.or_eq_false_iff, decide_eq_false_iff_not] at h
  exact ⟨num_back h.1, by omega⟩
theorem nums_back : ∀ {n : Nat} {s : St}, (numsR n s).1.bad = false → s.bad = false
  | 0, s, h => h
  | n + 1, s, h => by
    cases hs : s.bad with
    | false => rfl
    | true => rw [numsR_stop hs, hs] at h; cases h
theorem itr_back {f : St → St × Nd} : ∀ {n : Nat} {s : St}, (itrR f n s).1.bad = false → s.bad = false
  | 0, s, h => h
  | n + 1, s, h => by
    cases hs : s.bad with
    | false => rfl
    | true => rw [itrR_stop hs, hs] at h; cases h
theorem Sim.cnt {S : PS} {s : St} (m : Int) (h : Sim S s) : Sim (cntP m S).1 (cntR m s).1 ∧ ((cntR m s).1.bad = false → (cntP m S).2 = (cntR m s).2) := by
  have hn := h.num
  cases hb : (numP s).1.bad with
  | true =>
    have hr : (cntR m s).1.bad = true := by simp [cntR, hb]
    refine ⟨Sim.mkBad ?_ hr, fun q => by rw [hr] at q; cases q⟩
    unfold cntP
    split
    · exact .inl rfl
    · rename_i hc
      rcases hn.badS hb with q | q
      · exact .inl q
      · exact absurd (.inr q) hc
  | false =>
    obtain ⟨h1, h2⟩ := h.2 (num_back hb)
    obtain rfl := PS.eta h1 h2
    unfold cntP cntR
    simp only at *
    by_cases hm : m < ((numP s).2 : Int)
    · rw [if_pos (.inl hm), decide_eq_true hm, Bool.or_true]
      exact ⟨Sim.mkBad (.inl rfl) rfl, fun q => by cases q⟩
    · rw [if_neg (by rw [hb]; simp; omega), decide_eq_false hm, Bool.or_false]
      exact ⟨Sim.mkGood _, fun _ => rfl⟩
theorem rdS_front (s : St) : ∀ j, rdS s (j + 1) = rdS (numP s).1 j
  | 0 => rfl
  | j + 1 => by rw [rdS, rdS_front s j]; rfl
theorem rdL_front (s : St) : ∀ j, rdL s (j + 1) = ((numP s).2 : Int) :: rdL (numP s).1 j
  | 0 => rfl
  | j + 1 => by rw [rdL, rdL_front s j, rdS_front s j]; rfl
theorem rdS_stays {s : St} (h : s.bad = true) : ∀ j, (rdS s j).bad = true
  | 0 => h
  | j + 1 => numP_stays (rdS_stays h j)
theorem rd_nums : ∀ (j : Nat) (s : St), ((numsR j s).1.bad = true → (rdS s j).bad = true) ∧ ((numsR j s).1.bad = false → rdS s j = (numsR j s).1 ∧ rdL s j = (numsR j s).2)
  | 0, s => ⟨id, fun _ => ⟨rfl, rfl⟩⟩
  | j + 1, s => by
    cases hs : s.bad with
    | true => rw [numsR_stop hs]; exact ⟨fun _ => rdS_stays hs _, fun q => by rw [hs] at q; cases q⟩
    | false =>
      rw [numsR_go hs, rdS_front, rdL_front]
      have ih := rd_nums j (numP s).1
      exact ⟨ih.1, fun q => ⟨(ih.2 q).1, by rw [(ih.2 q).2]⟩⟩
theorem Sim.nums {S : PS} {s : St} (h : Sim S s) {k j : Nat} (hk : s.bad = false → k = j) : Sim ⟨rdS S.s k, S.gb⟩ (numsR j s).1 ∧ ((numsR j s).1.bad = false → rdL S.s k = (numsR j s).2) := by
  cases hs : s.bad with
  | true =>
    have hr : (numsR j s).1.bad = true := by rw [numsR_stop hs]; exact hs
    refine ⟨Sim.mkBad ?_ hr, fun q => by rw [hr] at q; cases q⟩
    rcases h.badS hs with q | q
    · exact .inl q
    · exact .inr (rdS_stays q k)
  | false =>
    obtain rfl := hk hs
    obtain ⟨h1, h2⟩ := h.2 hs
    obtain rfl := PS.eta h1 h2
    have hr := rd_nums k s
    cases hb : (numsR k s).1.bad with
    | true => exact ⟨Sim.mkBad (.inr (hr.1 hb)) hb, fun q => by cases q⟩
    | false => refine ⟨?_, fun _ => (hr.2 hb).2⟩; simp only; rw [(hr.2 hb).1]; exact Sim.mkGood _
def SimF {α : Type} (f : PS → PS × α) (g : St → St × α) : Prop := ∀ S s, Sim S s → Sim (f S).1 (g s).1 ∧ ((g s).1.bad = false → (f S).2 = (g s).2)
theorem SimF.itr {f : PS → PS × Nd} {g : St → St × Nd} (h : SimF f g) (hb : ∀ s, (g s).1.bad = false → s.bad = false) : ∀ (j k : Nat) (S : PS) (s : St), Sim S s → (s.bad = false → k = j) →
    Sim (itr f k S).1 (itrR g j s).1 ∧ ((itrR g j s).1.bad = false → (itr f k S).2 = (itrR g j s).2) := by
  intro j
  induction j with
  | zero =>
    intro k S s hS hk
    cases hs : s.bad with
    | true =>
      rw [itr_stop (hS.badS hs), itrR_stop hs]
      exact ⟨hS, fun _ => rfl⟩
    | false =>
      obtain rfl := hk hs
      exact ⟨hS, fun _ => rfl⟩
  | succ j ih =>
    intro k S s hS hk
    cases hs : s.bad with
    | true =>
      rw [itr_stop (hS.badS hs), itrR_stop hs]
      exact ⟨hS, fun _ => rfl⟩
    | false =>
      obtain rfl := hk hs
      obtain ⟨h1, h2⟩ := hS.2 hs
      rw [itr_go (by rw [h1, h2, hs]; simp), itrR_go hs]
      obtain ⟨a1, a2⟩ := h S s hS
      obtain ⟨b1, b2⟩ := ih j _ _ a1 (fun _ => rfl)
      exact ⟨b1, fun q => by simp only; rw [a2 (itr_back q), b2 q]⟩
def bodyRd (d : Nat) (s : St) : St × List Nd := itrR (nodeR (d - 1)) (cntR (mostP d) s).2 (cntR (mostP d) s).1
theorem nodeR_eq' (d : Nat) (s : St) : nodeR d s =
    ((bodyRd d (numP (numP (numP (numsR (cntR 2 (numP s).1).2 (cntR 2 (numP s).1).1).1).1).1).1).1,
     .mk ((numP s).2 : Nat) (numsR (cntR 2 (numP s).1).2 (cntR 2 (numP s).1).1).2 ((numP (numsR (cntR 2 (numP s).1).2 (cntR 2 (numP s).1).1).1).2 : Nat) ((numP (numP (numsR (cntR 2 (numP s).1).2 (cntR 2 (numP s).1).1).1).1).2 : Nat) ((numP (numP (numP (numsR (cntR 2 (numP s).1).2 (cntR 2 (numP s).1).1).1).1).1).2 : Nat)
      (bodyRd d (numP (numP (numP (numsR (cntR 2 (numP s).1).2 (cntR 2 (numP s).1).1).1).1).1).1).2) := by
  unfold bodyRd
  exact nodeR_eq d s
theorem body_back {d : Nat} {s : St} (h : (bodyRd d s).1.bad = false) : s.bad = false := (cnt_back (itr_back h)).1
theorem node_back (d : Nat) (s : St) (h : (nodeR d s).1.bad = false) : s.bad = false := by
  rw [nodeR_eq'] at h
  dsimp only at h
  have h1 := body_back h
  have h2 := num_back h1
  have h3 := num_back h2
  have h4 := num_back h3
  have h5 := nums_back h4
  have h6 := (cnt_back h5).1
  exact num_back h6
theorem Sim.node {body : PS → PS × List Nd} {d : Nat} (hbody : SimF body (bodyRd d)) : SimF (nodeW body) (nodeR d) := by
  intro S s h
  rw [nodeR_eq']
  have a1 := h.num
  have v1 : (numP s).1.bad = false → (numP S.s).2 = (numP s).2 := fun q => by rw [(h.2 (num_back q)).2]
  obtain ⟨a2, v2⟩ := a1.cnt 2
  obtain ⟨a3, v3⟩ := a2.nums (k := (cntP 2 ⟨(numP S.s).1, S.gb⟩).2) (j := (cntR 2 (numP s).1).2) v2
  unfold nodeW
  dsimp only
  generalize (cntP 2 ⟨(numP S.s).1, S.gb⟩) = c at *
  generalize hcr : cntR 2 (numP s).1 = cr at *
  generalize hN : rdS c.1.s c.2 = N at *
  generalize rdL c.1.s c.2 = NL at *
  generalize hr : numsR cr.2 cr.1 = R at *
  have a4 := a3.num
  have v4 : (numP R.1).1.bad = false → (numP N).2 = (numP R.1).2 := fun q => by have e : N = R.1 := (a3.2 (num_back q)).2; rw [e]
  dsimp only at a4 v4
  generalize hp4 : numP R.1 = P4 at *
  generalize numP N = Q4 at *
  have a5 := a4.num
  have v5 : (numP P4.1).1.bad = false → (numP Q4.1).2 = (numP P4.1).2 := fun q => by have e : Q4.1 = P4.1 := (a4.2 (num_back q)).2; rw [e]
  dsimp only at a5 v5
  generalize hp5 : numP P4.1 = P5 at *
  generalize numP Q4.1 = Q5 at *
  have a6 := a5.num
  have v6 : (numP P5.1).1.bad = false → (numP Q5.1).2 = (numP P5.1).2 := fun q => by have e : Q5.1 = P5.1 := (a5.2 (num_back q)).2; rw [e]
  dsimp only at a6 v6
  generalize hp6 : numP P5.1 = P6 at *
  generalize numP Q5.1 = Q6 at *
  obtain ⟨a7, v7⟩ := hbody _ _ a6
  refine ⟨a7, fun q => ?_⟩
  have q6 : P6.1.bad = false := body_back q
  have q5 : P5.1.bad = false := num_back (by rw [hp6]; exact q6)
  have q4 : P4.1.bad = false := num_back (by rw [hp5]; exact q5)
  have q3 : R.1.bad = false := num_back (by rw [hp4]; exact q4)
  have q2 : cr.1.bad = false := nums_back (by rw [hr]; exact q3)
  have q1 : (numP s).1.bad = false := (cnt_back (by rw [hcr]; exact q2)).1
  rw [v7 q, v6 q6, v5 q5, v4 q4, v3 q3, v1 q1]
theorem cntR_0 {s : St} (h : (cntR 0 s).1.bad = false) : (cntR 0 s).2 = 0 := by
  have := (cnt_back h).2
  show (numP s).2 = 0
  omega
theorem Sim.body : ∀ d, SimF (nodesP d) (bodyRd d)
  | 0, S, s, h => by
    obtain ⟨a1, a2⟩ := h.cnt 0
    have : bodyRd 0 s = ((cntR 0 s).1, []) := by
      unfold bodyRd
      show itrR (nodeR 0) (cntR 0 s).2 (cntR 0 s).1 = _
      cases hb : (cntR 0 s).1.bad with
      | true => rw [itrR_stop hb]
      | false => rw [cntR_0 hb]; rfl
    rw [this]
    exact ⟨a1, fun _ => rfl⟩
  | d + 1, S, s, h => by
    obtain ⟨a1, a2⟩ := h.cnt 32
    exact SimF.itr (Sim.node (Sim.body d)) (node_back d) _ _ _ _ a1 a2
def Fit : Nat → List Nd → Prop
  | 0, l => l = []
  | d + 1, l => l.length ≤ 32 ∧ ∀ n ∈ l, (okI n.op ∧ okI n.kind ∧ okI n.fa ∧ okI n.a ∧ n.ins.length ≤ 2 ∧ ∀ x ∈ n.ins, okI x) ∧ Fit d n.body
theorem Fit.put : ∀ {d : Nat} {l : List Nd}, Fit d l → PutN d l
  | 0, _, h => h
  | d + 1, l, h => ⟨by have := h.1; omega, fun n hn => ⟨by obtain ⟨a, b, c, e, f, g⟩ := (h.2 n hn).1; exact ⟨a, b, c, e, by omega, g⟩, Fit.put (h.2 n hn).2⟩⟩
theorem rd_put : ∀ (l : List Int) (r : List UInt8), (∀ x ∈ l, okI x) → rdS ⟨numsL l ++ r, false⟩ l.length = ⟨r, false⟩ ∧ rdL ⟨numsL l ++ r, false⟩ l.length = l
  | [], r, _ => ⟨rfl, rfl⟩
  | x :: l, r, h => by
    have hx := h x List.mem_cons_self
    unfold okI at hx
    have h1 : numP ⟨numsL (x :: l) ++ r, false⟩ = (⟨numsL l ++ r, false⟩, x.toNat) := by
      have : numsL (x :: l) ++ r = Num.put x.toNat ++ (numsL l ++ r) := by simp [numsL]
      rw [this, Num.numP_put (by omega)]
    obtain ⟨i1, i2⟩ := rd_put l r fun y hy => h y (List.mem_cons_of_mem _ hy)
    rw [List.length_cons, rdS_front, rdL_front, h1]
    dsimp only
    rw [i1, i2]
    exact ⟨rfl, by rw [Int.toNat_of_nonneg hx.1]⟩
theorem cnt_put {n : Nat} {m : Int} (hn : n < 9223372036854775808) (hm : (n : Int) ≤ m) (r : List UInt8) : cntP m ⟨⟨Num.put n ++ r, false⟩, false⟩ = (⟨⟨r, false⟩, false⟩, n) := by
  unfold cntP
  dsimp only
  rw [Num.numP_put hn, if_neg (by simp; omega)]
theorem numsL_2 (x y : Int) : numsL [x, y] = Num.put x.toNat ++ Num.put y.toNat := by simp [numsL]
theorem numsL_3 (x y z : Int) : numsL [x, y, z] = Num.put x.toNat ++ (Num.put y.toNat ++ Num.put z.toNat) := by simp [numsL]
theorem node_put {body : PS → PS × List Nd} {n : Nd} {bb : List UInt8} (h : okI n.op ∧ okI n.kind ∧ okI n.fa ∧ okI n.a ∧ n.ins.length ≤ 2 ∧ ∀ x ∈ n.ins, okI x) (r : List UInt8)
    (hb : body ⟨⟨bb ++ r, false⟩, false⟩ = (⟨⟨r, false⟩, false⟩, n.body)) : nodeW body ⟨⟨(hdrL n ++ bb) ++ r, false⟩, false⟩ = (⟨⟨r, false⟩, false⟩, n) := by
  obtain ⟨op, ins, kind, fa, a, bo⟩ := n
  obtain ⟨h1, h2, h3, h4, h5, h6⟩ := h
  dsimp only [Nd.op, Nd.ins, Nd.kind, Nd.fa, Nd.a, Nd.body] at *
  unfold okI at h1 h2 h3 h4
  have e0 : (hdrL (.mk op ins kind fa a bo) ++ bb) ++ r = Num.put op.toNat ++ (Num.put ins.length ++ (numsL ins ++ (Num.put kind.toNat ++ (Num.put fa.toNat ++ (Num.put a.toNat ++ (bb ++ r)))))) := by
    unfold hdrL
    dsimp only [Nd.op, Nd.ins, Nd.kind, Nd.fa, Nd.a]
    rw [numsL_2, numsL_3, Int.toNat_natCast]
    simp only [List.append_assoc]
  rw [e0]
  unfold nodeW
  dsimp only
  rw [Num.numP_put (by omega)]
  dsimp only
  rw [cnt_put (by omega) (by omega)]
  dsimp only
  rw [(rd_put ins _ h6).1, (rd_put ins _ h6).2]
  rw [Num.numP_put (by omega)]
  dsimp only
  rw [Num.numP_put (by omega)]
  dsimp only
  rw [Num.numP_put (by omega)]
  dsimp only
  rw [hb]
  dsimp only
  rw [Int.toNat_of_nonneg h1.1, Int.toNat_of_nonneg h2.1, Int.toNat_of_nonneg h3.1, Int.toNat_of_nonneg h4.1]
theorem itr_put {f : PS → PS × Nd} (g : Nd → List UInt8) : ∀ (l : List Nd) (r : List UInt8), (∀ n ∈ l, ∀ r, f ⟨⟨g n ++ r, false⟩, false⟩ = (⟨⟨r, false⟩, false⟩, n)) →
    itr f l.length ⟨⟨l.flatMap g ++ r, false⟩, false⟩ = (⟨⟨r, false⟩, false⟩, l)
  | [], r, _ => rfl
  | n :: l, r, h => by
    rw [List.length_cons, itr_go (by simp)]
    have e : (n :: l).flatMap g ++ r = g n ++ (l.flatMap g ++ r) := by simp
    rw [e, h n List.mem_cons_self, itr_put g l r fun m hm => h m (List.mem_cons_of_mem _ hm)]
theorem nodes_put : ∀ (d : Nat) (l : List Nd) (r : List UInt8), Fit d l → nodesP d ⟨⟨ndsL d l ++ r, false⟩, false⟩ = (⟨⟨r, false⟩, false⟩, l)
  | 0, l, r, h => by
    obtain rfl : l = [] := h
    show ((cntP 0 ⟨⟨Num.put 0 ++ r, false⟩, false⟩).1, []) = _
    rw [cnt_put (by omega) (by omega)]
  | d + 1, l, r, h => by
    have h1 := h.1
    show itr (nodeW (nodesP d)) (cntP 32 ⟨⟨(Num.put l.length ++ _) ++ r, false⟩, false⟩).2 (cntP 32 ⟨⟨(Num.put l.length ++ _) ++ r, false⟩, false⟩).1 = _
    rw [List.append_assoc, cnt_put (by omega) (by omega)]
    exact itr_put _ l r fun n hn r => node_put (h.2 n hn).1 r (nodes_put d n.body r (h.2 n hn).2)
theorem get_put {g : G} (hf : Fit 2 g.1) (ho : okI g.2) (hok : gOk g = true) : getP (grL g) = (g, true) := by
  obtain ⟨l, out⟩ := g
  unfold okI at ho
  dsimp only at *
  have h1 : grL (l, out) = ndsL 2 l ++ (Num.put out.toNat ++ []) := by unfold grL; simp
  unfold getP
  rw [h1, nodes_put 2 l _ hf]
  dsimp only
  rw [Num.numP_put (by omega)]
  dsimp only
  rw [Int.toNat_of_nonneg ho.1, hok]
  rfl
theorem bd_mk {s : St} {b : Bool} (h : bd ⟨s, b⟩ = false) : b = false ∧ s.bad = false := by
  unfold bd at h
  simpa using h
end Go.Ox.Gr
namespace Go.Proofs.YtpmpjjhchkoboaaGreatDoor
open Go.RowKit Go.Ox Go.Ox.Gr
attribute [local irreducible] RE OE NodesR
end Go.Proofs.YtpmpjjhchkoboaaGreatDoor
namespace Go.Proofs.YtpmpjjhchkoboaaGreatDoor
open Go.RowKit Go.Ox Go.Ox.Gr
abbrev Po := Pl × Int
instance encPo : Enc Po where
  k := 3
  enc x := [.int .i64 x.1.1, .int .i64 x.1.2, .int .i64 x.2]
  len _ := rfl
  pos := by omega
  one x u hu := by simp at hu; rcases hu with rfl | rfl | rfl <;> rfl
attribute [local irreducible] RE OE NodesR
end Go.Proofs.YtpmpjjhchkoboaaGreatDoor
namespace Go.Ox.Gr
end Go.Ox.Gr
namespace Go.Proofs.YtpmpjjhchkoboaaGreatDoor
open Go.RowKit Go.Ox Go.Ox.Gr
attribute [local irreducible] RE OE NodesR
end Go.Proofs.YtpmpjjhchkoboaaGreatDoor
namespace Go.Ox.Gr
def Lk (l : List Nd) : Prop := l.length ≤ 100 ∧ ∀ n ∈ l, n.body.length ≤ 100 ∧ n.ins.length ≤ 100 ∧ ∀ m ∈ n.body, m.ins.length ≤ 100
theorem Lk.at_ {l : List Nd} (h : Lk l) {q : Pl} {n : Nd} (hn : nodeAt l q = some n) : n.ins.length ≤ 100 := by
  unfold nodeAt at hn
  split at hn
  · cases hm : l[q.1.toNat]? with
    | none => rw [hm] at hn; cases hn
    | some m =>
      rw [hm] at hn
      have h1 := h.2 m (List.mem_of_getElem? hm)
      simp only at hn
      split at hn
      · injection hn with hn; subst hn; exact h1.2.1
      · split at hn
        · exact h1.2.2 n (List.mem_of_getElem? hn)
        · cases hn
  · cases hn
end Go.Ox.Gr
namespace Go.Proofs.YtpmpjjhchkoboaaGreatDoor
open Go.RowKit Go.Ox Go.Ox.Gr
attribute [local irreducible] RE OE NodesR
end Go.Proofs.YtpmpjjhchkoboaaGreatDoor
namespace Go.Ox.Gr
def deepB : Nat → List Nd → Bool
  | 0, _ => true
  | k + 1, l => decide (40 < l.length) || l.any fun n => decide (40 < n.ins.length) || (decide (0 < n.body.length) && deepB k n.body)
def deepN (k : Nat) (n : Nd) : Bool := decide (40 < n.ins.length) || (decide (0 < n.body.length) && deepB k n.body)
def anyD (k : Nat) (l : List Nd) : Bool := l.any (deepN k)
theorem anyD_s (k : Nat) (l : List Nd) {i : Nat} (h : i < l.length) : anyD k (l.take (i + 1)) = (anyD k (l.take i) || deepN k l[i]) := by
  unfold anyD
  rw [List.take_succ_eq_append_getElem h, List.any_append]
  simp
theorem anyD_hit (k : Nat) (l : List Nd) {i : Nat} (h : i < l.length) (hd : deepN k l[i] = true) : anyD k l = true := List.any_eq_true.2 ⟨_, List.getElem_mem h, hd⟩
theorem deepB_s (k : Nat) (l : List Nd) : deepB (k + 1) l = (decide (40 < l.length) || anyD k l) := rfl
theorem deep_ok {k : Nat} {l : List Nd} (h : deepB (k + 1) l = false) : l.length ≤ 40 ∧ ∀ n ∈ l, n.ins.length ≤ 40 ∧ (n.body = [] ∨ deepB k n.body = false) := by
  rw [deepB_s, Bool.or_eq_false_iff, decide_eq_false_iff_not] at h
  refine ⟨by omega, fun n hn => ?_⟩
  have h2 : deepN k n = false := by
    have := h.2
    unfold anyD at this
    rw [List.any_eq_false] at this
    simpa using this n hn
  unfold deepN at h2
  rw [Bool.or_eq_false_iff, decide_eq_false_iff_not, Bool.and_eq_false_iff, decide_eq_false_iff_not] at h2
  refine ⟨by omega, h2.2.imp (fun q => ?_) id⟩
  exact List.eq_nil_of_length_eq_zero (by omega)
end Go.Ox.Gr
namespace Go.Proofs.YtpmpjjhchkoboaaGreatDoor
open Go.RowKit Go.Ox Go.Ox.Gr
attribute [local irreducible] RE NodesR deepB
set_option maxHeartbeats 4000000 in
theorem deep_any : ∀ (k : Nat) (D : Int) (d : Nat) (v : Value) (l : List Nd) (w : World), k ≤ 4 → D = 4 - (k : Int) → NodesR d w v l →
    Calls Tryz.prog 18 #[v, .int .i64 D] w fun e w' => e = .returned (.bool (deepB k l)) ∧ w = w' := by
  intro k
  induction k with
  | zero =>
    intro D d v l w _ hD hv
    obtain ⟨A, c, rfl⟩ := hv.form
    have g1 : (3 : Int) < D := by omega
    rw [show deepB 0 l = true by unfold deepB; rfl]
    clear hv hD
    by_cases h : 40 < l.length
    · have g2 : (40 : Int) < (l.length : Int) := by omega
      clear h
      go_enter Tryz.func18, Tryz.ntmps18
      go_wp2
      go_ret
      exact ⟨rfl, rfl⟩
    · have g2 : ¬ (40 : Int) < (l.length : Int) := by omega
      clear h
      go_enter Tryz.func18, Tryz.ntmps18
      go_wp2
      go_ret
      exact ⟨rfl, rfl⟩
  | succ k ih =>
    intro D d v l w hk4 hD hv
    have HV := Lib.hid hv
    obtain ⟨A, c, rfl⟩ := hv.form
    have g1 : ¬ (3 : Int) < D := by omega
    have hd1 : IntKind.i64.wrap (D + 1) = 4 - (k : Int) := by rw [IntWalk.i64_in _ (by omega)]; omega
    have IH := Lib.hid (fun d v l w hv => ih (4 - (k : Int)) d v l w (by omega) rfl hv)
    have HB := Lib.hid (deepB_s k l)
    generalize deepB (k + 1) l = R at *
    clear hv hD ih
    by_cases h : 40 < l.length
    · have g2 : (40 : Int) < (l.length : Int) := by omega
      have HR := Lib.hid (show R = true by rw [HB.out, decide_eq_true h]; rfl)
      clear h
      go_enter Tryz.func18, Tryz.ntmps18
      go_wp2
      go_ret
      exact ⟨by rw [HR.out]; rfl, rfl⟩
    · have g2 : ¬ (40 : Int) < (l.length : Int) := by omega
      have H40 := Lib.hid (show l.length ≤ 40 by omega)
      rw [decide_eq_false h, Bool.false_or] at HB
      clear h hk4
      obtain ⟨K, hK⟩ : ∃ K : Int, K = 4 - (k : Int) := ⟨_, rfl⟩
      rw [← hK] at hd1 IH
      clear hK
      go_enter Tryz.func18, Tryz.ntmps18
      go_wp2
      go_loopw [5] (fun iv wr => ∃ i : Nat, i ≤ l.length ∧ iv = .int .i64 (i : Int) ∧ anyD k (l.take i) = false ∧ w = wr) (fun iv _ => l.length - (intOf iv).toNat)
      case atStart => exact ⟨0, Nat.zero_le _, rfl, rfl, rfl⟩
      case round =>
        obtain ⟨i, hi, rfl, hp, rfl⟩ := hrel
        have HP := Lib.hid hp
        have hib : i ≤ 40 := by have := H40.out; omega
        clear hp
        by_cases hlt : i < l.length
        · have q1 : (i : Int) < (l.length : Int) := by omega
          have q0 : 0 ≤ (i : Int) := by omega
          have q1n : i < l.length := hlt
          have HLT := Lib.hid hlt
          obtain ⟨bA, oA, u, bv, rfl, e0, e1, e2, e3, e4, e5, hu, hbv⟩ := HV.out.at_ hlt
          have HS := Lib.hid (anyD_s k l hlt)
          have HT := Lib.hid (anyD_hit k l hlt)
          rw [HP.out, Bool.false_or] at HS
          have HN := Lib.hid (show deepN k l[i] = (decide (40 < l[i].ins.length) || (decide (0 < l[i].body.length) && deepB k l[i].body)) from rfl)
          generalize deepN k l[i] = r at *
          generalize l[i] = x at *
          obtain ⟨op, ins, kind, fa, a, body⟩ := x
          simp only [Nd.op, Nd.kind, Nd.fa, Nd.a, Nd.ins, Nd.body] at e0 e2 e3 e4 hu hbv
          replace HN := Lib.hid (show r = (decide (40 < ins.length) || (decide (0 < body.length) && deepB k body)) from HN.out)
          have HC := Lib.hid (IH.out _ bv body w hbv)
          obtain ⟨Au, cu, rfl⟩ := hu.form
          obtain ⟨Ab, cb, rfl⟩ := hbv.form
          clear hu hbv hlt hi e0 e2 e3 e4
          by_cases hin : 40 < ins.length
          · have HR := Lib.hid (show R = true by rw [HB.out]; exact HT.out (by rw [HN.out, decide_eq_true hin]; rfl))
            have g3 : (40 : Int) < (ins.length : Int) := by omega
            clear hin
            go_wp2_with fail
            go_ret
            exact ⟨by rw [HR.out]; rfl, rfl⟩
          have g3 : ¬ (40 : Int) < (ins.length : Int) := by omega
          rw [decide_eq_false hin, Bool.false_or] at HN
          clear hin
          by_cases hbn : 0 < body.length
          · rw [decide_eq_true hbn, Bool.true_and] at HN
            have g4 : (0 : Int) < (body.length : Int) := by omega
            clear hbn
            generalize deepB k body = db at *
            go_wp2_with fail
            refine HC.out.mono ?_
            rintro e w' ⟨rfl, rfl⟩
            cases db with
            | true =>
              have HR := Lib.hid (show R = true by rw [HB.out]; exact HT.out HN.out)
              go_wp2
              go_ret
              exact ⟨by rw [HR.out]; rfl, rfl⟩
            | false =>
              go_wp2
              exact ⟨⟨i + 1, HLT.out, by go_num, by rw [HS.out, HN.out], by first | rfl | trivial⟩, by have := HLT.out; simp [intOf]; omega⟩
          · rw [decide_eq_false hbn, Bool.false_and] at HN
            have g4 : ¬ (0 : Int) < (body.length : Int) := by omega
            clear hbn
            go_wp2_with fail
            exact ⟨⟨i + 1, HLT.out, by go_num, by rw [HS.out, HN.out], by first | rfl | trivial⟩, by have := HLT.out; simp [intOf]; omega⟩
        · obtain rfl : i = l.length := by omega
          have q1 : ¬ (l.length : Int) < (l.length : Int) := by omega
          rw [List.take_length] at HP
          have HR := Lib.hid (show R = false by rw [HB.out, HP.out])
          go_wp2
          go_ret
          exact ⟨by rw [HR.out]; rfl, rfl⟩
end Go.Proofs.YtpmpjjhchkoboaaGreatDoor
