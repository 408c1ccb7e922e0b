/-
  GrRdMath, GrGet, GrGetRN, GrGetLaw, packed: what the claim needs of them.
-/
import Derived.Test.YtcacicgkebcdkaaPe11
import Derived.Test.YtcacicgkebcdkaaPe26
import Derived.Test.YtcacicgkebcdkaaPe16
import Derived.Test.YtcacicgkebcdkaaChecked
import Derived.Test.YtcacicgkebcdkaaPe02
import Derived.WalkKit
import Derived.WalkSpells
import Derived.WalkLawsBesides
import Derived.StillTailTactics
import Derived.IntWalk
import Derived.Test.YtcacicgkebcdkaaPe05
import Derived.Test.YtcacicgkebcdkaaPe15
import Derived.Test.YtcacicgkebcdkaaPe13
import Derived.Deep.DeepCutAuto
set_option linter.unusedSimpArgs false
set_option linter.unusedVariables false
namespace Go.Ox.Gr
def okI (x : Int) : Prop := 0 ≤ x ∧ x < 9223372036854775808
def PutN : Nat → List Nd → Prop
  | 0, l => l = []
  | d + 1, l => l.length ≤ 100 ∧ ∀ n ∈ l, (okI n.op ∧ okI n.kind ∧ okI n.fa ∧ okI n.a ∧ n.ins.length ≤ 100 ∧ ∀ x ∈ n.ins, okI x) ∧ PutN d n.body
theorem PutN.len {d : Nat} {l : List Nd} (h : PutN d l) : l.length ≤ 100 := by
  cases d with
  | zero => cases h; simp
  | succ d => exact h.1
end Go.Ox.Gr
namespace Go.Ox.Gr
open Go.Ox.Num (St numP failP)
structure PS where
  s : St
  gb : Bool
def rdS (s : St) : Nat → St
  | 0 => s
  | j + 1 => (numP (rdS s j)).1
def rdL (s : St) : Nat → List Int
  | 0 => []
  | j + 1 => rdL s j ++ [((numP (rdS s j)).2 : Int)]
def cntP (most : Int) (S : PS) : PS × Nat :=
  if most < ((numP S.s).2 : Int) ∨ (numP S.s).1.bad = true then (⟨(numP S.s).1, true⟩, 0) else (⟨(numP S.s).1, S.gb⟩, (numP S.s).2)
def nodeW (body : PS → PS × List Nd) (S : PS) : PS × Nd :=
  let s1 := (numP S.s).1
  let c := cntP 2 ⟨s1, S.gb⟩
  let s2 := rdS c.1.s c.2
  let s3 := (numP s2).1
  let s4 := (numP s3).1
  let s5 := (numP s4).1
  let b := body ⟨s5, c.1.gb⟩
  (b.1, .mk ((numP S.s).2 : Nat) (rdL c.1.s c.2) ((numP s2).2 : Nat) ((numP s3).2 : Nat) ((numP s4).2 : Nat) b.2)
def itr (f : PS → PS × Nd) : Nat → PS → PS × List Nd
  | 0, S => (S, [])
  | n + 1, S => if S.gb = true ∨ S.s.bad = true then (S, []) else ((itr f n (f S).1).1, (f S).2 :: (itr f n (f S).1).2)
def mostP : Nat → Int
  | 0 => 0
  | _ + 1 => 32
def nodesP : Nat → PS → PS × List Nd
  | 0, S => ((cntP 0 S).1, [])
  | d + 1, S => itr (nodeW (nodesP d)) (cntP 32 S).2 (cntP 32 S).1
theorem itr_stop {f : PS → PS × Nd} {S : PS} (h : S.gb = true ∨ S.s.bad = true) (n : Nat) : itr f n S = (S, []) := by
  cases n with
  | zero => rfl
  | succ n => unfold itr; rw [if_pos h]
theorem itr_go {f : PS → PS × Nd} {S : PS} (h : ¬ (S.gb = true ∨ S.s.bad = true)) (n : Nat) : itr f (n + 1) S = ((itr f n (f S).1).1, (f S).2 :: (itr f n (f S).1).2) := by
  rw [itr, if_neg h]
def cntR (most : Int) (s : St) : St × Nat := (⟨(numP s).1.l, (numP s).1.bad || decide (most < ((numP s).2 : Int))⟩, (numP s).2)
def numsR : Nat → St → St × List Int
  | 0, s => (s, [])
  | n + 1, s => if s.bad = true then (s, []) else ((numsR n (numP s).1).1, ((numP s).2 : Int) :: (numsR n (numP s).1).2)
def itrR (f : St → St × Nd) : Nat → St → St × List Nd
  | 0, s => (s, [])
  | n + 1, s => if s.bad = true then (s, []) else ((itrR f n (f s).1).1, (f s).2 :: (itrR f n (f s).1).2)
def nodeR : Nat → St → St × Nd
  | d, s =>
    let s1 := (numP s).1
    let c := cntR 2 s1
    let i := numsR c.2 c.1
    let s3 := (numP i.1).1
    let s4 := (numP s3).1
    let s5 := (numP s4).1
    let b := cntR (mostP d) s5
    match d with
    | 0 => (b.1, .mk ((numP s).2 : Nat) i.2 ((numP i.1).2 : Nat) ((numP s3).2 : Nat) ((numP s4).2 : Nat) [])
    | d + 1 => ((itrR (nodeR d) b.2 b.1).1, .mk ((numP s).2 : Nat) i.2 ((numP i.1).2 : Nat) ((numP s3).2 : Nat) ((numP s4).2 : Nat) (itrR (nodeR d) b.2 b.1).2)
theorem numsR_stop {s : St} (h : s.bad = true) (n : Nat) : numsR n s = (s, []) := by
  cases n with
  | zero => rfl
  | succ n => unfold numsR; rw [if_pos h]
theorem itrR_stop {f : St → St × Nd} {s : St} (h : s.bad = true) (n : Nat) : itrR f n s = (s, []) := by
  cases n with
  | zero => rfl
  | succ n => unfold itrR; rw [if_pos h]
end Go.Ox.Gr
namespace Go.Proofs.Ytcacicgkebcdkaa
open Go.RowKit Go.Ox Go.Ox.Gr
section
variable {K : Nat → Prop} {B B' p g : Nat} {w w' : World} {S : PS} {s1 : Num.St}
end
abbrev RX (p g : Nat) (w w' : World) : Prop := ExtQ (fun k => k = p ∨ k = g) w w'
theorem RX.num {p g : Nat} {w w' : World} (h : ExtG g w w') : RX p g w w' := ExtQ.extG h (.inr rfl)
end Go.Proofs.Ytcacicgkebcdkaa
namespace Go.Proofs.Ytcacicgkebcdkaa
open Go.RowKit Go.Ox Go.Ox.Gr
theorem OE.extQ' {Q : Nat → Prop} {E B : Nat} {w w' : World} {v : Value} {l : List Int} (h : OE E B w v l) (he : ExtQ Q w w') (hq : ∀ k, v.ownBlock = some k → ¬ Q k) : OE E B w' v l := OE.mk (ownsRow_extQ h.own he hq)
attribute [local irreducible] RE OE
section
variable {K : Nat → Prop} {B B' p g q : Nat} {w w' : World} {S S' : PS} {T : TypeId} {a0 a1 a2 a3 a4 a5 : Value} {Q : Nat → Prop}
theorem Bx6.extQ (h : Bx6 w q T a0 a1 a2 a3 a4 a5) (he : ExtQ Q w w') (hq : ¬ Q q) : Bx6 w' q T a0 a1 a2 a3 a4 a5 := ⟨h.b.extQ he hq⟩
end
end Go.Proofs.Ytcacicgkebcdkaa
namespace Go.Proofs.Ytcacicgkebcdkaa
open Go.RowKit Go.Ox Go.Ox.Gr
attribute [local irreducible] RE OE
end Go.Proofs.Ytcacicgkebcdkaa
namespace Go.Ox.Gr
end Go.Ox.Gr
namespace Go.Proofs.Ytcacicgkebcdkaa
open Go.RowKit Go.Ox Go.Ox.Gr
attribute [local irreducible] RE OE
theorem Blk2.new {w : World} {T : TypeId} (a b : Value) : Blk (w.alloc (.cells #[a, b] T)) w.heap.size T #[a, b] := Blk.new _ _ _
end Go.Proofs.Ytcacicgkebcdkaa
namespace Go.Ox.Gr
open Go.Ox.Num (St numP)
theorem nodeR_eq (d : Nat) (s : St) : nodeR d s =
    ((itrR (nodeR (d - 1)) (cntR (mostP d) (numP (numP (numP (numsR (cntR 2 (numP s).1).2 (cntR 2 (numP s).1).1).1).1).1).1).2 (cntR (mostP d) (numP (numP (numP (numsR (cntR 2 (numP s).1).2 (cntR 2 (numP s).1).1).1).1).1).1).1).1,
     .mk ((numP s).2 : Nat) (numsR (cntR 2 (numP s).1).2 (cntR 2 (numP s).1).1).2 ((numP (numsR (cntR 2 (numP s).1).2 (cntR 2 (numP s).1).1).1).2 : Nat) ((numP (numP (numsR (cntR 2 (numP s).1).2 (cntR 2 (numP s).1).1).1).1).2 : Nat) ((numP (numP (numP (numsR (cntR 2 (numP s).1).2 (cntR 2 (numP s).1).1).1).1).1).2 : Nat)
      (itrR (nodeR (d - 1)) (cntR (mostP d) (numP (numP (numP (numsR (cntR 2 (numP s).1).2 (cntR 2 (numP s).1).1).1).1).1).1).2 (cntR (mostP d) (numP (numP (numP (numsR (cntR 2 (numP s).1).2 (cntR 2 (numP s).1).1).1).1).1).1).1).2) := by
  cases d with
  | succ d => rw [nodeR]; rfl
  | zero =>
    have h : ∀ t : St, itrR (nodeR (0 - 1)) (cntR (mostP 0) t).2 (cntR (mostP 0) t).1 = ((cntR (mostP 0) t).1, []) := fun t => by
      by_cases h0 : (cntR (mostP 0) t).2 = 0
      · rw [h0]; rfl
      · refine itrR_stop ?_ _
        unfold cntR mostP at h0 ⊢
        simp only at h0 ⊢
        have : (0 : Int) < ((numP t).2 : Int) := by omega
        rw [decide_eq_true this, Bool.or_true]
    rw [h, nodeR]
theorem numsR_go {s : St} (h : s.bad = false) (n : Nat) : numsR (n + 1) s = ((numsR n (numP s).1).1, ((numP s).2 : Int) :: (numsR n (numP s).1).2) := by rw [numsR, if_neg (by rw [h]; simp)]
theorem itrR_go {f : St → St × Nd} {s : St} (h : s.bad = false) (n : Nat) : itrR f (n + 1) s = ((itrR f n (f s).1).1, (f s).2 :: (itrR f n (f s).1).2) := by rw [itrR, if_neg (by rw [h]; simp)]
end Go.Ox.Gr
namespace Go.Proofs.Ytcacicgkebcdkaa
open Go.RowKit Go.Ox Go.Ox.Gr
attribute [local irreducible] RE OE
section
variable {K : Nat → Prop} {B B' g : Nat} {w w' : World} {s s1 : Num.St}
end
end Go.Proofs.Ytcacicgkebcdkaa
namespace Go.Ox.Gr
end Go.Ox.Gr
namespace Go.Proofs.Ytcacicgkebcdkaa
open Go.RowKit Go.Ox Go.Ox.Gr
attribute [local irreducible] RE OE
section
variable {K : Nat → Prop} {r q g : Nat} {w0 w w' : World} {s s' : Num.St} {op kind fa a : Int} {u b v : Value}
end
theorem OE.keep {E B x : Nat} {w w' : World} {v : Value} {l : List Int} (h : OE E B w v l) (he : ExtQ (fun k => k = x) w w') (hx : x < B) : OE E B w' v l := OE.extQ' h he (fun k hk (e : k = x) => by have := (h.own.lt k hk).1; omega)
end Go.Proofs.Ytcacicgkebcdkaa
namespace Go.Ox.Gr
open Go.Ox.Num (St numP failP)
theorem numC {s : St} (h : (numP s).1.bad = false) : s.bad = false ∧ s.l = Num.put (numP s).2 ++ (numP s).1.l ∧ (numP s).2 < 9223372036854775808 := Num.numP_canon (s := s) (t := (numP s).1) (n := (numP s).2) rfl h
attribute [local irreducible] Num.numP
theorem numP_stays {s : St} (h : s.bad = true) : (numP s).1.bad = true := by
  cases hb : (numP s).1.bad with
  | true => rfl
  | false =>
    have := (numC hb).1
    rw [h] at this; cases this
def bd (S : PS) : Bool := S.gb || S.s.bad
def Sim (S : PS) (s : St) : Prop := bd S = s.bad ∧ (s.bad = false → S.gb = false ∧ S.s = s)
theorem Sim.badS {S : PS} {s : St} (h : Sim S s) (hb : s.bad = true) : S.gb = true ∨ S.s.bad = true := by
  have := h.1
  rw [hb] at this
  unfold bd at this
  simpa using this
theorem Sim.mkBad {S : PS} {s : St} (h : S.gb = true ∨ S.s.bad = true) (hb : s.bad = true) : Sim S s :=
  ⟨by unfold bd; rw [hb]; simpa using h, fun q => by rw [hb] at q; cases q⟩
theorem Sim.mkGood (s : St) : Sim ⟨s, false⟩ s := ⟨by simp [bd], fun _ => ⟨rfl, rfl⟩⟩
theorem PS.eta {S : PS} {s : St} (h1 : S.gb = false) (h2 : S.s = s) : S = ⟨s, false⟩ := by cases S; simp at h1 h2; subst h1; subst h2; rfl
theorem Sim.num {S : PS} {s : St} (h : Sim S s) : Sim ⟨(numP S.s).1, S.gb⟩ (numP s).1 := by
  cases hs : s.bad with
  | true =>
    refine Sim.mkBad ?_ (numP_stays hs)
    rcases h.badS hs with q | q
    · exact .inl q
    · exact .inr (numP_stays q)
  | false =>
    obtain ⟨h1, h2⟩ := h.2 hs
    rw [h1, h2]
    exact Sim.mkGood _
theorem num_back {s : St} (h : (numP s).1.bad = false) : s.bad = false := by
  cases hs : s.bad with
  | false => rfl
  | true => rw [numP_stays hs] at h; cases h
theorem cnt_back {m : Int} {s : St} (h : (cntR m s).1.bad = false) : s.bad = false ∧ ((numP s).2 : Int) ≤ m := by
  unfold cntR at h
  simp only [Bool.or_eq_false_iff, decide_eq_false_iff_not] at h
  exact ⟨num_back h.1, by omega⟩
theorem nums_back : ∀ {n : Nat} {s : St}, (numsR n s).1.bad = false → s.bad = false
  | 0, s, h => h
  | n + 1, s, h => by
    cases hs : s.bad with
    | false => rfl
    | true => rw [numsR_stop hs, hs] at h; cases h
theorem itr_back {f : St → St × Nd} : ∀ {n : Nat} {s : St}, (itrR f n s).1.bad = false → s.bad = false
  | 0, s, h => h
  | n + 1, s, h => by
    cases hs : s.bad with
    | false => rfl
    | true => rw [itrR_stop hs, hs] at h; cases h
theorem Sim.cnt {S : PS} {s : St} (m : Int) (h : Sim S s) : Sim (cntP m S).1 (cntR m s).1 ∧ ((cntR m s).1.bad = false → (cntP m S).2 = (cntR m s).2) := by
  have hn := h.num
  cases hb : (numP s).1.bad with
  | true =>
    have hr : (cntR m s).1.bad = true := by simp [cntR, hb]
    refine ⟨Sim.mkBad ?_ hr, fun q => by rw [hr] at q; cases q⟩
    unfold cntP
    split
    · exact .inl rfl
    · rename_i hc
      rcases hn.badS hb with q | q
      · exact .inl q
      · exact absurd (.inr q) hc
  | false =>
    obtain ⟨h1, h2⟩ := h.2 (num_back hb)
    obtain rfl := PS.eta h1 h2
    unfold cntP cntR
    simp only at *
    by_cases hm : m < ((numP s).2 : Int)
    · rw [if_pos (.inl hm), decide_eq_true hm, Bool.or_true]
      exact ⟨Sim.mkBad (.inl rfl) rfl, fun q => by cases q⟩
    · rw [if_neg (by rw [hb]; simp; omega), decide_eq_false hm, Bool.or_false]
      exact ⟨Sim.mkGood _, fun _ => rfl⟩
theorem rdS_front (s : St) : ∀ j, rdS s (j + 1) = rdS (numP s).1 j
  | 0 => rfl
  | j + 1 => by rw [rdS, rdS_front s j]; rfl
theorem rdL_front (s : St) : ∀ j, rdL s (j + 1) = ((numP s).2 : Int) :: rdL (numP s).1 j
  | 0 => rfl
  | j + 1 => by rw [rdL, rdL_front s j, rdS_front s j]; rfl
theorem rdS_stays {s : St} (h : s.bad = true) : ∀ j, (rdS s j).bad = true
  | 0 => h
  | j + 1 => numP_stays (rdS_stays h j)
theorem rd_nums : ∀ (j : Nat) (s : St), ((numsR j s).1.bad = true → (rdS s j).bad = true) ∧ ((numsR j s).1.bad = false → rdS s j = (numsR j s).1 ∧ rdL s j = (numsR j s).2)
  | 0, s => ⟨id, fun _ => ⟨rfl, rfl⟩⟩
  | j + 1, s => by
    cases hs : s.bad with
    | true => rw [numsR_stop hs]; exact ⟨fun _ => rdS_stays hs _, fun q => by rw [hs] at q; cases q⟩
    | false =>
      rw [numsR_go hs, rdS_front, rdL_front]
      have ih := rd_nums j (numP s).1
      exact ⟨ih.1, fun q => ⟨(ih.2 q).1, by rw [(ih.2 q).2]⟩⟩
theorem Sim.nums {S : PS} {s : St} (h : Sim S s) {k j : Nat} (hk : s.bad = false → k = j) : Sim ⟨rdS S.s k, S.gb⟩ (numsR j s).1 ∧ ((numsR j s).1.bad = false → rdL S.s k = (numsR j s).2) := by
  cases hs : s.bad with
  | true =>
    have hr : (numsR j s).1.bad = true := by rw [numsR_stop hs]; exact hs
    refine ⟨Sim.mkBad ?_ hr, fun q => by rw [hr] at q; cases q⟩
    rcases h.badS hs with q | q
    · exact .inl q
    · exact .inr (rdS_stays q k)
  | false =>
    obtain rfl := hk hs
    obtain ⟨h1, h2⟩ := h.2 hs
    obtain rfl := PS.eta h1 h2
    have hr := rd_nums k s
    cases hb : (numsR k s).1.bad with
    | true => exact ⟨Sim.mkBad (.inr (hr.1 hb)) hb, fun q => by cases q⟩
    | false => refine ⟨?_, fun _ => (hr.2 hb).2⟩; simp only; rw [(hr.2 hb).1]; exact Sim.mkGood _
def SimF {α : Type} (f : PS → PS × α) (g : St → St × α) : Prop := ∀ S s, Sim S s → Sim (f S).1 (g s).1 ∧ ((g s).1.bad = false → (f S).2 = (g s).2)
theorem SimF.itr {f : PS → PS × Nd} {g : St → St × Nd} (h : SimF f g) (hb : ∀ s, (g s).1.bad = false → s.bad = false) : ∀ (j k : Nat) (S : PS) (s : St), Sim S s → (s.bad = false → k = j) →
    Sim (itr f k S).1 (itrR g j s).1 ∧ ((itrR g j s).1.bad = false → (itr f k S).2 = (itrR g j s).2) := by
  intro j
  induction j with
  | zero =>
    intro k S s hS hk
    cases hs : s.bad with
    | true =>
      rw [itr_stop (hS.badS hs), itrR_stop hs]
      exact ⟨hS, fun _ => rfl⟩
    | false =>
      obtain rfl := hk hs
      exact ⟨hS, fun _ => rfl⟩
  | succ j ih =>
    intro k S s hS hk
    cases hs : s.bad with
    | true =>
      rw [itr_stop (hS.badS hs), itrR_stop hs]
      exact ⟨hS, fun _ => rfl⟩
    | false =>
      obtain rfl := hk hs
      obtain ⟨h1, h2⟩ := hS.2 hs
      rw [itr_go (by rw [h1, h2, hs]; simp), itrR_go hs]
      obtain ⟨a1, a2⟩ := h S s hS
      obtain ⟨b1, b2⟩ := ih j _ _ a1 (fun _ => rfl)
      exact ⟨b1, fun q => by simp only; rw [a2 (itr_back q), b2 q]⟩
def bodyRd (d : Nat) (s : St) : St × List Nd := itrR (nodeR (d - 1)) (cntR (mostP d) s).2 (cntR (mostP d) s).1
theorem nodeR_eq' (d : Nat) (s : St) : nodeR d s =
    ((bodyRd d (numP (numP (numP (numsR (cntR 2 (numP s).1).2 (cntR 2 (numP s).1).1).1).1).1).1).1,
     .mk ((numP s).2 : Nat) (numsR (cntR 2 (numP s).1).2 (cntR 2 (numP s).1).1).2 ((numP (numsR (cntR 2 (numP s).1).2 (cntR 2 (numP s).1).1).1).2 : Nat) ((numP (numP (numsR (cntR 2 (numP s).1).2 (cntR 2 (numP s).1).1).1).1).2 : Nat) ((numP (numP (numP (numsR (cntR 2 (numP s).1).2 (cntR 2 (numP s).1).1).1).1).1).2 : Nat)
      (bodyRd d (numP (numP (numP (numsR (cntR 2 (numP s).1).2 (cntR 2 (numP s).1).1).1).1).1).1).2) := by
  unfold bodyRd
  exact nodeR_eq d s
theorem body_back {d : Nat} {s : St} (h : (bodyRd d s).1.bad = false) : s.bad = false := (cnt_back (itr_back h)).1
theorem node_back (d : Nat) (s : St) (h : (nodeR d s).1.bad = false) : s.bad = false := by
  rw [nodeR_eq'] at h
  dsimp only at h
  have h1 := body_back h
  have h2 := num_back h1
  have h3 := num_back h2
  have h4 := num_back h3
  have h5 := nums_back h4
  have h6 := (cnt_back h5).1
  exact num_back h6
theorem Sim.node {body : PS → PS × List Nd} {d : Nat} (hbody : SimF body (bodyRd d)) : SimF (nodeW body) (nodeR d) := by
  intro S s h
  rw [nodeR_eq']
  have a1 := h.num
  have v1 : (numP s).1.bad = false → (numP S.s).2 = (numP s).2 := fun q => by rw [(h.2 (num_back q)).2]
  obtain ⟨a2, v2⟩ := a1.cnt 2
  obtain ⟨a3, v3⟩ := a2.nums (k := (cntP 2 ⟨(numP S.s).1, S.gb⟩).2) (j := (cntR 2 (numP s).1).2) v2
  unfold nodeW
  dsimp only
  generalize (cntP 2 ⟨(numP S.s).1, S.gb⟩) = c at *
  generalize hcr : cntR 2 (numP s).1 = cr at *
  generalize hN : rdS c.1.s c.2 = N at *
  generalize rdL c.1.s c.2 = NL at *
  generalize hr : numsR cr.2 cr.1 = R at *
  have a4 := a3.num
  have v4 : (numP R.1).1.bad = false → (numP N).2 = (numP R.1).2 := fun q => by have e : N = R.1 := (a3.2 (num_back q)).2; rw [e]
  dsimp only at a4 v4
  generalize hp4 : numP R.1 = P4 at *
  generalize numP N = Q4 at *
  have a5 := a4.num
  have v5 : (numP P4.1).1.bad = false → (numP Q4.1).2 = (numP P4.1).2 := fun q => by have e : Q4.1 = P4.1 := (a4.2 (num_back q)).2; rw [e]
  dsimp only at a5 v5
  generalize hp5 : numP P4.1 = P5 at *
  generalize numP Q4.1 = Q5 at *
  have a6 := a5.num
  have v6 : (numP P5.1).1.bad = false → (numP Q5.1).2 = (numP P5.1).2 := fun q => by have e : Q5.1 = P5.1 := (a5.2 (num_back q)).2; rw [e]
  dsimp only at a6 v6
  generalize hp6 : numP P5.1 = P6 at *
  generalize numP Q5.1 = Q6 at *
  obtain ⟨a7, v7⟩ := hbody _ _ a6
  refine ⟨a7, fun q => ?_⟩
  have q6 : P6.1.bad = false := body_back q
  have q5 : P5.1.bad = false := num_back (by rw [hp6]; exact q6)
  have q4 : P4.1.bad = false := num_back (by rw [hp5]; exact q5)
  have q3 : R.1.bad = false := num_back (by rw [hp4]; exact q4)
  have q2 : cr.1.bad = false := nums_back (by rw [hr]; exact q3)
  have q1 : (numP s).1.bad = false := (cnt_back (by rw [hcr]; exact q2)).1
  rw [v7 q, v6 q6, v5 q5, v4 q4, v3 q3, v1 q1]
theorem cntR_0 {s : St} (h : (cntR 0 s).1.bad = false) : (cntR 0 s).2 = 0 := by
  have := (cnt_back h).2
  show (numP s).2 = 0
  omega
theorem Sim.body : ∀ d, SimF (nodesP d) (bodyRd d)
  | 0, S, s, h => by
    obtain ⟨a1, a2⟩ := h.cnt 0
    have : bodyRd 0 s = ((cntR 0 s).1, []) := by
      unfold bodyRd
      show itrR (nodeR 0) (cntR 0 s).2 (cntR 0 s).1 = _
      cases hb : (cntR 0 s).1.bad with
      | true => rw [itrR_stop hb]
      | false => rw [cntR_0 hb]; rfl
    rw [this]
    exact ⟨a1, fun _ => rfl⟩
  | d + 1, S, s, h => by
    obtain ⟨a1, a2⟩ := h.cnt 32
    exact SimF.itr (Sim.node (Sim.body d)) (node_back d) _ _ _ _ a1 a2
def Fit : Nat → List Nd → Prop
  | 0, l => l = []
  | d + 1, l => l.length ≤ 32 ∧ ∀ n ∈ l, (okI n.op ∧ okI n.kind ∧ okI n.fa ∧ okI n.a ∧ n.ins.length ≤ 2 ∧ ∀ x ∈ n.ins, okI x) ∧ Fit d n.body
theorem Fit.put : ∀ {d : Nat} {l : List Nd}, Fit d l → PutN d l
  | 0, _, h => h
  | d + 1, l, h => ⟨by have := h.1; omega, fun n hn => ⟨by obtain ⟨a, b, c, e, f, g⟩ := (h.2 n hn).1; exact ⟨a, b, c, e, by omega, g⟩, Fit.put (h.2 n hn).2⟩⟩
end Go.Ox.Gr
