/-
  GrGetLaw, GrNamed, GrUsersR, GrDeep, packed: what the claim needs of them.
-/
import Derived.Test.YtpmpjjhchkoboaaGreatDoorPc14
import Derived.Test.YtpmpjjhchkoboaaGreatDoorPc11
import Derived.Test.YtpmpjjhchkoboaaGreatDoorPc10
import Derived.Test.YtpmpjjhchkoboaaGreatDoorPc08
import Derived.Test.YtpmpjjhchkoboaaGreatDoorPc06
import Derived.BigRegion
import Derived.BigQuiet
import Derived.Deep.RegionWith
set_option linter.unusedSimpArgs false
set_option linter.unusedVariables false
namespace Go.Ox.Gr
open Go.Ox.Num (St numP failP)
theorem numC {s : St} (h : (numP s).1.bad = false) : s.bad = false ∧ s.l = Num.put (numP s).2 ++ (numP s).1.l ∧ (numP s).2 < 9223372036854775808 := Num.numP_canon (s := s) (t := (numP s).1) (n := (numP s).2) rfl h
attribute [local irreducible] Num.numP
theorem numP_stays {s : St} (h : s.bad = true) : (numP s).1.bad = true := by
 cases hb : (numP s).1.bad with
 | true => rfl
 | false =>
  have := (numC hb).1
  rw [h] at this; cases this
def bd (S : PS) : Bool := S.gb || S.s.bad
def Sim (S : PS) (s : St) : Prop := bd S = s.bad ∧ (s.bad = false → S.gb = false ∧ S.s = s)
theorem Sim.badS {S : PS} {s : St} (h : Sim S s) (hb : s.bad = true) : S.gb = true ∨ S.s.bad = true := by
 have := h.1
 rw [hb] at this
 unfold bd at this
 simpa using this
theorem Sim.mkBad {S : PS} {s : St} (h : S.gb = true ∨ S.s.bad = true) (hb : s.bad = true) : Sim S s :=
 ⟨by unfold bd; rw [hb]; simpa using h, fun q => by rw [hb] at q; cases q⟩
theorem Sim.mkGood (s : St) : Sim ⟨s, false⟩ s := ⟨by simp [bd], fun _ => ⟨rfl, rfl⟩⟩
theorem PS.eta {S : PS} {s : St} (h1 : S.gb = false) (h2 : S.s = s) : S = ⟨s, false⟩ := by cases S; simp at h1 h2; subst h1; subst h2; rfl
theorem Sim.num {S : PS} {s : St} (h : Sim S s) : Sim ⟨(numP S.s).1, S.gb⟩ (numP s).1 := by
 cases hs : s.bad with
 | true =>
  refine Sim.mkBad ?_ (numP_stays hs)
  rcases h.badS hs with q | q
  · exact .inl q
  · exact .inr (numP_stays q)
 | false =>
  obtain ⟨h1, h2⟩ := h.2 hs
  rw [h1, h2]
  exact Sim.mkGood _
theorem num_back {s : St} (h : (numP s).1.bad = false) : s.bad = false := by
 cases hs : s.bad with
 | false => rfl
 | true => rw [numP_stays hs] at h; cases h
theorem cnt_back {m : Int} {s : St} (h : (cntR m s).1.bad = false) : s.bad = false ∧ ((numP s).2 : Int) ≤ m := by
 unfold cntR at h
 simp only [Bool.or_eq_false_iff, decide_eq_false_iff_not] at h
 exact ⟨num_back h.1, by omega⟩
theorem nums_back : ∀ {n : Nat} {s : St}, (numsR n s).1.bad = false → s.bad = false
 | 0, s, h => h
 | n + 1, s, h => by
  cases hs : s.bad with
  | false => rfl
  | true => rw [numsR_stop hs, hs] at h; cases h
theorem itr_back {f : St → St × Nd} : ∀ {n : Nat} {s : St}, (itrR f n s).1.bad = false → s.bad = false
 | 0, s, h => h
 | n + 1, s, h => by
  cases hs : s.bad with
  | false => rfl
  | true => rw [itrR_stop hs, hs] at h; cases h
theorem Sim.cnt {S : PS} {s : St} (m : Int) (h : Sim S s) : Sim (cntP m S).1 (cntR m s).1 ∧ ((cntR m s).1.bad = false → (cntP m S).2 = (cntR m s).2) := by
 have hn := h.num
 cases hb : (numP s).1.bad with
 | true =>
  have hr : (cntR m s).1.bad = true := by simp [cntR, hb]
  refine ⟨Sim.mkBad ?_ hr, fun q => by rw [hr] at q; cases q⟩
  unfold cntP
  split
  · exact .inl rfl
  · rename_i hc
    rcases hn.badS hb with q | q
    · exact .inl q
    · exact absurd (.inr q) hc
 | false =>
  obtain ⟨h1, h2⟩ := h.2 (num_back hb)
  obtain rfl := PS.eta h1 h2
  unfold cntP cntR
  simp only at *
  by_cases hm : m < ((numP s).2 : Int)
  · rw [if_pos (.inl hm), decide_eq_true hm, Bool.or_true]
    exact ⟨Sim.mkBad (.inl rfl) rfl, fun q => by cases q⟩
  · rw [if_neg (by rw [hb]; simp; omega), decide_eq_false hm, Bool.or_false]
    exact ⟨Sim.mkGood _, fun _ => rfl⟩
theorem rdS_front (s : St) : ∀ j, rdS s (j + 1) = rdS (numP s).1 j
 | 0 => rfl
 | j + 1 => by rw [rdS, rdS_front s j]; rfl
theorem rdL_front (s : St) : ∀ j, rdL s (j + 1) = ((numP s).2 : Int) :: rdL (numP s).1 j
 | 0 => rfl
 | j + 1 => by rw [rdL, rdL_front s j, rdS_front s j]; rfl
theorem rdS_stays {s : St} (h : s.bad = true) : ∀ j, (rdS s j).bad = true
 | 0 => h
 | j + 1 => numP_stays (rdS_stays h j)
theorem rd_nums : ∀ (j : Nat) (s : St), ((numsR j s).1.bad = true → (rdS s j).bad = true) ∧ ((numsR j s).1.bad = false → rdS s j = (numsR j s).1 ∧ rdL s j = (numsR j s).2)
 | 0, s => ⟨id, fun _ => ⟨rfl, rfl⟩⟩
 | j + 1, s => by
  cases hs : s.bad with
  | true => rw [numsR_stop hs]; exact ⟨fun _ => rdS_stays hs _, fun q => by rw [hs] at q; cases q⟩
  | false =>
   rw [numsR_go hs, rdS_front, rdL_front]
   have ih := rd_nums j (numP s).1
   exact ⟨ih.1, fun q => ⟨(ih.2 q).1, by rw [(ih.2 q).2]⟩⟩
theorem Sim.nums {S : PS} {s : St} (h : Sim S s) {k j : Nat} (hk : s.bad = false → k = j) : Sim ⟨rdS S.s k, S.gb⟩ (numsR j s).1 ∧ ((numsR j s).1.bad = false → rdL S.s k = (numsR j s).2) := by
 cases hs : s.bad with
 | true =>
  have hr : (numsR j s).1.bad = true := by rw [numsR_stop hs]; exact hs
  refine ⟨Sim.mkBad ?_ hr, fun q => by rw [hr] at q; cases q⟩
  rcases h.badS hs with q | q
  · exact .inl q
  · exact .inr (rdS_stays q k)
 | false =>
  obtain rfl := hk hs
  obtain ⟨h1, h2⟩ := h.2 hs
  obtain rfl := PS.eta h1 h2
  have hr := rd_nums k s
  cases hb : (numsR k s).1.bad with
  | true => exact ⟨Sim.mkBad (.inr (hr.1 hb)) hb, fun q => by cases q⟩
  | false => refine ⟨?_, fun _ => (hr.2 hb).2⟩; simp only; rw [(hr.2 hb).1]; exact Sim.mkGood _
def SimF {α : Type} (f : PS → PS × α) (g : St → St × α) : Prop := ∀ S s, Sim S s → Sim (f S).1 (g s).1 ∧ ((g s).1.bad = false → (f S).2 = (g s).2)
theorem SimF.itr {f : PS → PS × Nd} {g : St → St × Nd} (h : SimF f g) (hb : ∀ s, (g s).1.bad = false → s.bad = false) : ∀ (j k : Nat) (S : PS) (s : St), Sim S s → (s.bad = false → k = j) →
 Sim (itr f k S).1 (itrR g j s).1 ∧ ((itrR g j s).1.bad = false → (itr f k S).2 = (itrR g j s).2) := by
 intro j
 induction j with
 | zero =>
  intro k S s hS hk
  cases hs : s.bad with
  | true =>
   rw [itr_stop (hS.badS hs), itrR_stop hs]
   exact ⟨hS, fun _ => rfl⟩
  | false =>
   obtain rfl := hk hs
   exact ⟨hS, fun _ => rfl⟩
 | succ j ih =>
  intro k S s hS hk
  cases hs : s.bad with
  | true =>
   rw [itr_stop (hS.badS hs), itrR_stop hs]
   exact ⟨hS, fun _ => rfl⟩
  | false =>
   obtain rfl := hk hs
   obtain ⟨h1, h2⟩ := hS.2 hs
   rw [itr_go (by rw [h1, h2, hs]; simp), itrR_go hs]
   obtain ⟨a1, a2⟩ := h S s hS
   obtain ⟨b1, b2⟩ := ih j _ _ a1 (fun _ => rfl)
   exact ⟨b1, fun q => by simp only; rw [a2 (itr_back q), b2 q]⟩
def bodyRd (d : Nat) (s : St) : St × List Nd := itrR (nodeR (d - 1)) (cntR (mostP d) s).2 (cntR (mostP d) s).1
theorem nodeR_eq' (d : Nat) (s : St) : nodeR d s =
 ((bodyRd d (numP (numP (numP (numsR (cntR 2 (numP s).1).2 (cntR 2 (numP s).1).1).1).1).1).1).1,
  .mk ((numP s).2 : Nat) (numsR (cntR 2 (numP s).1).2 (cntR 2 (numP s).1).1).2 ((numP (numsR (cntR 2 (numP s).1).2 (cntR 2 (numP s).1).1).1).2 : Nat) ((numP (numP (numsR (cntR 2 (numP s).1).2 (cntR 2 (numP s).1).1).1).1).2 : Nat) ((numP (numP (numP (numsR (cntR 2 (numP s).1).2 (cntR 2 (numP s).1).1).1).1).1).2 : Nat)
   (bodyRd d (numP (numP (numP (numsR (cntR 2 (numP s).1).2 (cntR 2 (numP s).1).1).1).1).1).1).2) := by
 unfold bodyRd
 exact nodeR_eq d s
theorem body_back {d : Nat} {s : St} (h : (bodyRd d s).1.bad = false) : s.bad = false := (cnt_back (itr_back h)).1
theorem node_back (d : Nat) (s : St) (h : (nodeR d s).1.bad = false) : s.bad = false := by
 rw [nodeR_eq'] at h
 dsimp only at h
 have h1 := body_back h
 have h2 := num_back h1
 have h3 := num_back h2
 have h4 := num_back h3
 have h5 := nums_back h4
 have h6 := (cnt_back h5).1
 exact num_back h6
theorem Sim.node {body : PS → PS × List Nd} {d : Nat} (hbody : SimF body (bodyRd d)) : SimF (nodeW body) (nodeR d) := by
 intro S s h
 rw [nodeR_eq']
 have a1 := h.num
 have v1 : (numP s).1.bad = false → (numP S.s).2 = (numP s).2 := fun q => by rw [(h.2 (num_back q)).2]
 obtain ⟨a2, v2⟩ := a1.cnt 2
 obtain ⟨a3, v3⟩ := a2.nums (k := (cntP 2 ⟨(numP S.s).1, S.gb⟩).2) (j := (cntR 2 (numP s).1).2) v2
 unfold nodeW
 dsimp only
 generalize (cntP 2 ⟨(numP S.s).1, S.gb⟩) = c at *
 generalize hcr : cntR 2 (numP s).1 = cr at *
 generalize hN : rdS c.1.s c.2 = N at *
 generalize rdL c.1.s c.2 = NL at *
 generalize hr : numsR cr.2 cr.1 = R at *
 have a4 := a3.num
 have v4 : (numP R.1).1.bad = false → (numP N).2 = (numP R.1).2 := fun q => by have e : N = R.1 := (a3.2 (num_back q)).2; rw [e]
 dsimp only at a4 v4
 generalize hp4 : numP R.1 = P4 at *
 generalize numP N = Q4 at *
 have a5 := a4.num
 have v5 : (numP P4.1).1.bad = false → (numP Q4.1).2 = (numP P4.1).2 := fun q => by have e : Q4.1 = P4.1 := (a4.2 (num_back q)).2; rw [e]
 dsimp only at a5 v5
 generalize hp5 : numP P4.1 = P5 at *
 generalize numP Q4.1 = Q5 at *
 have a6 := a5.num
 have v6 : (numP P5.1).1.bad = false → (numP Q5.1).2 = (numP P5.1).2 := fun q => by have e : Q5.1 = P5.1 := (a5.2 (num_back q)).2; rw [e]
 dsimp only at a6 v6
 generalize hp6 : numP P5.1 = P6 at *
 generalize numP Q5.1 = Q6 at *
 obtain ⟨a7, v7⟩ := hbody _ _ a6
 refine ⟨a7, fun q => ?_⟩
 have q6 : P6.1.bad = false := body_back q
 have q5 : P5.1.bad = false := num_back (by rw [hp6]; exact q6)
 have q4 : P4.1.bad = false := num_back (by rw [hp5]; exact q5)
 have q3 : R.1.bad = false := num_back (by rw [hp4]; exact q4)
 have q2 : cr.1.bad = false := nums_back (by rw [hr]; exact q3)
 have q1 : (numP s).1.bad = false := (cnt_back (by rw [hcr]; exact q2)).1
 rw [v7 q, v6 q6, v5 q5, v4 q4, v3 q3, v1 q1]
theorem cntR_0 {s : St} (h : (cntR 0 s).1.bad = false) : (cntR 0 s).2 = 0 := by
 have := (cnt_back h).2
 show (numP s).2 = 0
 omega
theorem Sim.body : ∀ d, SimF (nodesP d) (bodyRd d)
 | 0, S, s, h => by
  obtain ⟨a1, a2⟩ := h.cnt 0
  have : bodyRd 0 s = ((cntR 0 s).1, []) := by
   unfold bodyRd
   show itrR (nodeR 0) (cntR 0 s).2 (cntR 0 s).1 = _
   cases hb : (cntR 0 s).1.bad with
   | true => rw [itrR_stop hb]
   | false => rw [cntR_0 hb]; rfl
  rw [this]
  exact ⟨a1, fun _ => rfl⟩
 | d + 1, S, s, h => by
  obtain ⟨a1, a2⟩ := h.cnt 32
  exact SimF.itr (Sim.node (Sim.body d)) (node_back d) _ _ _ _ a1 a2
theorem get_same (b : List UInt8) : (getP b).2 = (getR b).2 ∧ ((getR b).2 = true → (getP b).1 = (getR b).1) := by
 obtain ⟨a1, a2⟩ := Sim.body 2 ⟨⟨b, false⟩, false⟩ ⟨b, false⟩ (Sim.mkGood _)
 have e1 : bodyRd 2 ⟨b, false⟩ = itrR (nodeR 1) (cntR 32 ⟨b, false⟩).2 (cntR 32 ⟨b, false⟩).1 := rfl
 by_cases hn : 32 < (numP ⟨b, false⟩).2
 · have hR : getR b = (([], 0), false) := by unfold getR; dsimp only; rw [if_pos hn]
   have hbad : (bodyRd 2 ⟨b, false⟩).1.bad = true := by
    cases hb : (bodyRd 2 ⟨b, false⟩).1.bad with
    | true => rfl
    | false =>
     have := (cnt_back (itr_back (e1 ▸ hb))).2
     omega
   have hP : (getP b).2 = false := by
    unfold getP
    dsimp only
    rcases a1.badS hbad with q | q
    · rw [q]; rfl
    · rw [numP_stays q]; simp
   rw [hR, hP]
   exact ⟨rfl, fun q => by cases q⟩
 · have e2 : cntR 32 ⟨b, false⟩ = ((numP ⟨b, false⟩).1, (numP ⟨b, false⟩).2) := by
    unfold cntR
    rw [decide_eq_false (by omega), Bool.or_false]
   rw [e2] at e1
   dsimp only at e1
   have hR : getR b = (((bodyRd 2 ⟨b, false⟩).2, ((numP (bodyRd 2 ⟨b, false⟩).1).2 : Int)), !(numP (bodyRd 2 ⟨b, false⟩).1).1.bad && ((numP (bodyRd 2 ⟨b, false⟩).1).1.l.isEmpty && gOk ((bodyRd 2 ⟨b, false⟩).2, ((numP (bodyRd 2 ⟨b, false⟩).1).2 : Int)))) := by
    unfold getR
    dsimp only
    rw [if_neg hn, e1]
   rw [hR]
   unfold getP
   dsimp only
   generalize nodesP 2 ⟨⟨b, false⟩, false⟩ = P at *
   generalize bodyRd 2 ⟨b, false⟩ = R at *
   cases hb : R.1.bad with
   | true =>
    rw [numP_stays hb]
    refine ⟨?_, fun q => by cases q⟩
    rcases a1.badS hb with q | q
    · rw [q]; rfl
    · rw [numP_stays q]; simp
   | false =>
    obtain ⟨h1, h2⟩ := a1.2 hb
    rw [h1, h2, a2 hb]
    exact ⟨by simp, fun _ => rfl⟩
def Fit : Nat → List Nd → Prop
 | 0, l => l = []
 | d + 1, l => l.length ≤ 32 ∧ ∀ n ∈ l, (okI n.op ∧ okI n.kind ∧ okI n.fa ∧ okI n.a ∧ n.ins.length ≤ 2 ∧ ∀ x ∈ n.ins, okI x) ∧ Fit d n.body
theorem Fit.put : ∀ {d : Nat} {l : List Nd}, Fit d l → PutN d l
 | 0, _, h => h
 | d + 1, l, h => ⟨by have := h.1; omega, fun n hn => ⟨by obtain ⟨a, b, c, e, f, g⟩ := (h.2 n hn).1; exact ⟨a, b, c, e, by omega, g⟩, Fit.put (h.2 n hn).2⟩⟩
theorem rd_put : ∀ (l : List Int) (r : List UInt8), (∀ x ∈ l, okI x) → rdS ⟨numsL l ++ r, false⟩ l.length = ⟨r, false⟩ ∧ rdL ⟨numsL l ++ r, false⟩ l.length = l
 | [], r, _ => ⟨rfl, rfl⟩
 | x :: l, r, h => by
  have hx := h x List.mem_cons_self
  unfold okI at hx
  have h1 : numP ⟨numsL (x :: l) ++ r, false⟩ = (⟨numsL l ++ r, false⟩, x.toNat) := by
   have : numsL (x :: l) ++ r = Num.put x.toNat ++ (numsL l ++ r) := by simp [numsL]
   rw [this, Num.numP_put (by omega)]
  obtain ⟨i1, i2⟩ := rd_put l r fun y hy => h y (List.mem_cons_of_mem _ hy)
  rw [List.length_cons, rdS_front, rdL_front, h1]
  dsimp only
  rw [i1, i2]
  exact ⟨rfl, by rw [Int.toNat_of_nonneg hx.1]⟩
theorem cnt_put {n : Nat} {m : Int} (hn : n < 9223372036854775808) (hm : (n : Int) ≤ m) (r : List UInt8) : cntP m ⟨⟨Num.put n ++ r, false⟩, false⟩ = (⟨⟨r, false⟩, false⟩, n) := by
 unfold cntP
 dsimp only
 rw [Num.numP_put hn, if_neg (by simp; omega)]
theorem numsL_1 (x : Int) : numsL [x] = Num.put x.toNat := by simp [numsL]
theorem numsL_2 (x y : Int) : numsL [x, y] = Num.put x.toNat ++ Num.put y.toNat := by simp [numsL]
theorem numsL_3 (x y z : Int) : numsL [x, y, z] = Num.put x.toNat ++ (Num.put y.toNat ++ Num.put z.toNat) := by simp [numsL]
theorem node_put {body : PS → PS × List Nd} {n : Nd} {bb : List UInt8} (h : okI n.op ∧ okI n.kind ∧ okI n.fa ∧ okI n.a ∧ n.ins.length ≤ 2 ∧ ∀ x ∈ n.ins, okI x) (r : List UInt8)
 (hb : body ⟨⟨bb ++ r, false⟩, false⟩ = (⟨⟨r, false⟩, false⟩, n.body)) : nodeW body ⟨⟨(hdrL n ++ bb) ++ r, false⟩, false⟩ = (⟨⟨r, false⟩, false⟩, n) := by
 obtain ⟨op, ins, kind, fa, a, bo⟩ := n
 obtain ⟨h1, h2, h3, h4, h5, h6⟩ := h
 dsimp only [Nd.op, Nd.ins, Nd.kind, Nd.fa, Nd.a, Nd.body] at *
 unfold okI at h1 h2 h3 h4
 have e0 : (hdrL (.mk op ins kind fa a bo) ++ bb) ++ r = Num.put op.toNat ++ (Num.put ins.length ++ (numsL ins ++ (Num.put kind.toNat ++ (Num.put fa.toNat ++ (Num.put a.toNat ++ (bb ++ r)))))) := by
  unfold hdrL
  dsimp only [Nd.op, Nd.ins, Nd.kind, Nd.fa, Nd.a]
  rw [numsL_2, numsL_3, Int.toNat_natCast]
  simp only [List.append_assoc]
 rw [e0]
 unfold nodeW
 dsimp only
 rw [Num.numP_put (by omega)]
 dsimp only
 rw [cnt_put (by omega) (by omega)]
 dsimp only
 rw [(rd_put ins _ h6).1, (rd_put ins _ h6).2]
 rw [Num.numP_put (by omega)]
 dsimp only
 rw [Num.numP_put (by omega)]
 dsimp only
 rw [Num.numP_put (by omega)]
 dsimp only
 rw [hb]
 dsimp only
 rw [Int.toNat_of_nonneg h1.1, Int.toNat_of_nonneg h2.1, Int.toNat_of_nonneg h3.1, Int.toNat_of_nonneg h4.1]
theorem itr_put {f : PS → PS × Nd} (g : Nd → List UInt8) : ∀ (l : List Nd) (r : List UInt8), (∀ n ∈ l, ∀ r, f ⟨⟨g n ++ r, false⟩, false⟩ = (⟨⟨r, false⟩, false⟩, n)) →
 itr f l.length ⟨⟨l.flatMap g ++ r, false⟩, false⟩ = (⟨⟨r, false⟩, false⟩, l)
 | [], r, _ => rfl
 | n :: l, r, h => by
  rw [List.length_cons, itr_go (by simp)]
  have e : (n :: l).flatMap g ++ r = g n ++ (l.flatMap g ++ r) := by simp
  rw [e, h n List.mem_cons_self, itr_put g l r fun m hm => h m (List.mem_cons_of_mem _ hm)]
theorem nodes_put : ∀ (d : Nat) (l : List Nd) (r : List UInt8), Fit d l → nodesP d ⟨⟨ndsL d l ++ r, false⟩, false⟩ = (⟨⟨r, false⟩, false⟩, l)
 | 0, l, r, h => by
  obtain rfl : l = [] := h
  show ((cntP 0 ⟨⟨Num.put 0 ++ r, false⟩, false⟩).1, []) = _
  rw [cnt_put (by omega) (by omega)]
 | d + 1, l, r, h => by
  have h1 := h.1
  show itr (nodeW (nodesP d)) (cntP 32 ⟨⟨(Num.put l.length ++ _) ++ r, false⟩, false⟩).2 (cntP 32 ⟨⟨(Num.put l.length ++ _) ++ r, false⟩, false⟩).1 = _
  rw [List.append_assoc, cnt_put (by omega) (by omega)]
  exact itr_put _ l r fun n hn r => node_put (h.2 n hn).1 r (nodes_put d n.body r (h.2 n hn).2)
theorem get_put {g : G} (hf : Fit 2 g.1) (ho : okI g.2) (hok : gOk g = true) : getP (grL g) = (g, true) := by
 obtain ⟨l, out⟩ := g
 unfold okI at ho
 dsimp only at *
 have h1 : grL (l, out) = ndsL 2 l ++ (Num.put out.toNat ++ []) := by unfold grL; simp
 unfold getP
 rw [h1, nodes_put 2 l _ hf]
 dsimp only
 rw [Num.numP_put (by omega)]
 dsimp only
 rw [Int.toNat_of_nonneg ho.1, hok]
 rfl
theorem rd_canon {s : St} : ∀ (j : Nat), (rdS s j).bad = false → s.bad = false ∧ s.l = numsL (rdL s j) ++ (rdS s j).l
 | 0, h => ⟨h, rfl⟩
 | j + 1, h => by
  obtain ⟨a1, a2, a3⟩ := numC (s := rdS s j) h
  obtain ⟨b1, b2⟩ := rd_canon j a1
  refine ⟨b1, ?_⟩
  rw [b2, a2, rdL, numsL_app, numsL_1, Int.toNat_natCast, List.append_assoc]
  rfl
theorem cntP_canon {m : Int} {S : PS} (h : bd (cntP m S).1 = false) : bd S = false ∧ S.s.l = Num.put (cntP m S).2 ++ (cntP m S).1.s.l := by
 unfold cntP at h ⊢
 by_cases hc : m < ((numP S.s).2 : Int) ∨ (numP S.s).1.bad = true
 · rw [if_pos hc] at h; cases h
 · rw [if_neg hc] at h ⊢
   unfold bd at h ⊢
   simp only [Bool.or_eq_false_iff] at h ⊢
   obtain ⟨a1, a2, a3⟩ := numC (s := S.s) h.2
   exact ⟨⟨h.1, a1⟩, a2⟩
theorem bd_mk {s : St} {b : Bool} (h : bd ⟨s, b⟩ = false) : b = false ∧ s.bad = false := by
 unfold bd at h
 simpa using h
theorem nodeW_canon {body : PS → PS × List Nd} {bL : List Nd → List UInt8} (hb : ∀ S, bd (body S).1 = false → bd S = false ∧ S.s.l = bL (body S).2 ++ (body S).1.s.l) (S : PS) (h : bd (nodeW body S).1 = false) :
 bd S = false ∧ S.s.l = (hdrL (nodeW body S).2 ++ bL (nodeW body S).2.body) ++ (nodeW body S).1.s.l := by
 unfold nodeW at h ⊢
 dsimp only [Nd.body] at h ⊢
 have h7 := hb _ h
 unfold hdrL
 dsimp only [Nd.op, Nd.ins, Nd.kind, Nd.fa, Nd.a, Nd.body] at *
 generalize body _ = B at *
 obtain ⟨x1, x2⟩ := bd_mk h7.1
 obtain ⟨a1, a2, a3⟩ := numC x2
 obtain ⟨b1, b2, b3⟩ := numC a1
 obtain ⟨c1, c2, c3⟩ := numC b1
 obtain ⟨d1, d2⟩ := rd_canon _ c1
 have hc : bd (cntP 2 ⟨(numP S.s).1, S.gb⟩).1 = false := by unfold bd; rw [x1, d1]; rfl
 obtain ⟨e1, e2⟩ := cntP_canon hc
 obtain ⟨y1, y2⟩ := bd_mk e1
 obtain ⟨f1, f2, f3⟩ := numC y2
 refine ⟨by unfold bd; rw [y1, f1]; rfl, ?_⟩
 rw [numsL_2, numsL_3, f2, Int.toNat_natCast, Int.toNat_natCast, Int.toNat_natCast, Int.toNat_natCast, Int.toNat_natCast, rdL_len]
 dsimp only at e2
 rw [e2, d2, c2, b2, a2]
 have h72 := h7.2
 rw [h72]
 simp only [List.append_assoc]
theorem itr_canon {f : PS → PS × Nd} {g : Nd → List UInt8} (hf : ∀ S, bd (f S).1 = false → bd S = false ∧ S.s.l = g (f S).2 ++ (f S).1.s.l) : ∀ (n : Nat) (S : PS), bd (itr f n S).1 = false →
 bd S = false ∧ S.s.l = (itr f n S).2.flatMap g ++ (itr f n S).1.s.l ∧ (itr f n S).2.length = n
 | 0, S, h => ⟨h, rfl, rfl⟩
 | n + 1, S, h => by
  by_cases hs : S.gb = true ∨ S.s.bad = true
  · rw [itr_stop hs] at h
    unfold bd at h
    rcases hs with q | q <;> rw [q] at h <;> simp at h
  · rw [itr_go hs] at h ⊢
    obtain ⟨a1, a2, a3⟩ := itr_canon hf n _ h
    obtain ⟨b1, b2⟩ := hf S a1
    refine ⟨b1, ?_, by simp [a3]⟩
    dsimp only
    rw [List.flatMap_cons, b2, a2, List.append_assoc]
theorem nodesP_canon : ∀ (d : Nat) (S : PS), bd (nodesP d S).1 = false → bd S = false ∧ S.s.l = ndsL d (nodesP d S).2 ++ (nodesP d S).1.s.l
 | 0, S, h => by
  obtain ⟨a1, a2⟩ := cntP_canon (m := 0) h
  have hz : (cntP 0 S).2 = 0 := by have := cntP_le 0 S (by omega); omega
  rw [hz] at a2
  exact ⟨a1, a2⟩
 | d + 1, S, h => by
  obtain ⟨a1, a2, a3⟩ := itr_canon (g := fun n => hdrL n ++ ndsL d n.body) (nodeW_canon (nodesP_canon d)) _ _ h
  obtain ⟨b1, b2⟩ := cntP_canon a1
  refine ⟨b1, ?_⟩
  show S.s.l = (Num.put (itr (nodeW (nodesP d)) (cntP 32 S).2 (cntP 32 S).1).2.length ++ _) ++ _
  rw [a3, b2, a2, List.append_assoc]
  rfl
theorem put_get {b : List UInt8} (h : (getP b).2 = true) : grL (getP b).1 = b ∧ gOk (getP b).1 = true := by
 unfold getP at h ⊢
 simp only [Bool.and_eq_true, Bool.not_eq_true', List.isEmpty_iff] at h
 obtain ⟨h1, h2, h3, h4⟩ := h
 obtain ⟨a1, a2, a3⟩ := numC h2
 have hb : bd (nodesP 2 ⟨⟨b, false⟩, false⟩).1 = false := by unfold bd; rw [h1, a1]; rfl
 obtain ⟨b1, b2⟩ := nodesP_canon 2 _ hb
 refine ⟨?_, h4⟩
 unfold grL
 dsimp only at *
 rw [Int.toNat_natCast]
 conv => rhs; rw [b2, a2, h3, List.append_nil]
end Go.Ox.Gr
namespace Go.Proofs.YtpmpjjhchkoboaaGreatDoor
open Go.RowKit Go.Ox Go.Ox.Gr
attribute [local irreducible] RE OE NodesR
end Go.Proofs.YtpmpjjhchkoboaaGreatDoor
namespace Go.Proofs.YtpmpjjhchkoboaaGreatDoor
open Go.RowKit Go.Ox Go.Ox.Gr
abbrev Po := Pl × Int
instance encPo : Enc Po where
 k := 3
 enc x := [.int .i64 x.1.1, .int .i64 x.1.2, .int .i64 x.2]
 len _ := rfl
 pos := by omega
 one x u hu := by simp at hu; rcases hu with rfl | rfl | rfl <;> rfl
attribute [local irreducible] RE OE NodesR
end Go.Proofs.YtpmpjjhchkoboaaGreatDoor
namespace Go.Ox.Gr
end Go.Ox.Gr
namespace Go.Proofs.YtpmpjjhchkoboaaGreatDoor
open Go.RowKit Go.Ox Go.Ox.Gr
attribute [local irreducible] RE OE NodesR
end Go.Proofs.YtpmpjjhchkoboaaGreatDoor
namespace Go.Ox.Gr
def Lk (l : List Nd) : Prop := l.length ≤ 100 ∧ ∀ n ∈ l, n.body.length ≤ 100 ∧ n.ins.length ≤ 100 ∧ ∀ m ∈ n.body, m.ins.length ≤ 100
theorem Lk.at_ {l : List Nd} (h : Lk l) {q : Pl} {n : Nd} (hn : nodeAt l q = some n) : n.ins.length ≤ 100 := by
 unfold nodeAt at hn
 split at hn
 · cases hm : l[q.1.toNat]? with
   | none => rw [hm] at hn; cases hn
   | some m =>
    rw [hm] at hn
    have h1 := h.2 m (List.mem_of_getElem? hm)
    simp only at hn
    split at hn
    · injection hn with hn; subst hn; exact h1.2.1
    · split at hn
      · exact h1.2.2 n (List.mem_of_getElem? hn)
      · cases hn
 · cases hn
end Go.Ox.Gr
namespace Go.Proofs.YtpmpjjhchkoboaaGreatDoor
open Go.RowKit Go.Ox Go.Ox.Gr
attribute [local irreducible] RE OE NodesR
end Go.Proofs.YtpmpjjhchkoboaaGreatDoor
namespace Go.Ox.Gr
def deepB : Nat → List Nd → Bool
 | 0, _ => true
 | k + 1, l => decide (40 < l.length) || l.any fun n => decide (40 < n.ins.length) || (decide (0 < n.body.length) && deepB k n.body)
def deepN (k : Nat) (n : Nd) : Bool := decide (40 < n.ins.length) || (decide (0 < n.body.length) && deepB k n.body)
def anyD (k : Nat) (l : List Nd) : Bool := l.any (deepN k)
theorem deepB_s (k : Nat) (l : List Nd) : deepB (k + 1) l = (decide (40 < l.length) || anyD k l) := rfl
theorem deep_ok {k : Nat} {l : List Nd} (h : deepB (k + 1) l = false) : l.length ≤ 40 ∧ ∀ n ∈ l, n.ins.length ≤ 40 ∧ (n.body = [] ∨ deepB k n.body = false) := by
 rw [deepB_s, Bool.or_eq_false_iff, decide_eq_false_iff_not] at h
 refine ⟨by omega, fun n hn => ?_⟩
 have h2 : deepN k n = false := by
  have := h.2
  unfold anyD at this
  rw [List.any_eq_false] at this
  simpa using this n hn
 unfold deepN at h2
 rw [Bool.or_eq_false_iff, decide_eq_false_iff_not, Bool.and_eq_false_iff, decide_eq_false_iff_not] at h2
 refine ⟨by omega, h2.2.imp (fun q => ?_) id⟩
 exact List.eq_nil_of_length_eq_zero (by omega)
end Go.Ox.Gr
namespace Go.Proofs.YtpmpjjhchkoboaaGreatDoor
open Go.RowKit Go.Ox Go.Ox.Gr
attribute [local irreducible] RE NodesR deepB
end Go.Proofs.YtpmpjjhchkoboaaGreatDoor
