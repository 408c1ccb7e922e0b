/-
  LaWNode, packed: what the claim needs of them.
-/
import Derived.Test.YtpmgmiiidfconaaGreatDoorPz26
import Derived.Test.YtpmgmiiidfconaaGreatDoorPz27
set_option linter.unusedVariables false
set_option linter.unusedSimpArgs false
namespace Go.Proofs.YtpmgmiiidfconaaGreatDoor
open Go.RowKit Go.Ox Go.Ox.Gr Go.Ox.Sc Go.Ox.La Go.Shelf
/-- a node's own number, what is left, is it one? -/
def numP (o : Nat) (l : List W) : Int × List W × Bool :=
  if (o : Int) = 11 then ((named1 (l.headD []) false).1, l.tail, (named1 (l.headD []) false).2)
  else if countedB (o : Int) = true then ((wnB (l.headD [])).1, l.tail, (wnB (l.headD [])).2) else (0, l, true)
def insP (body : Bool) (at_ : Nat) : List W → Bool → List Int × Bool
  | [], bad => ([], bad)
  | _ :: _, true => ([], true)
  | x :: r, false => ((named1 x body).1 :: (insP body at_ r (!(named1 x body).2 || decide ((at_ : Int) ≤ (named1 x body).1))).1, (insP body at_ r (!(named1 x body).2 || decide ((at_ : Int) ≤ (named1 x body).1))).2)
def nodeF (o : Nat) (r : List W) : (Int × Int) × List W × Bool := if fmly (o : Int) = 0 then ((0, 0), r, false) else fnP r (fmly (o : Int))
/-- the node of the words behind its op; is it bad? -/
def nodeP (o : Nat) (r : List W) (at_ : Nat) (body : Bool) : Nd × Bool :=
  (.mk o (insP body at_ (numP o (nodeF o r).2.1).2.1 ((nodeF o r).2.2 || !(numP o (nodeF o r).2.1).2.2)).1 (nodeF o r).1.1 (nodeF o r).1.2 (numP o (nodeF o r).2.1).1 [],
    (insP body at_ (numP o (nodeF o r).2.1).2.1 ((nodeF o r).2.2 || !(numP o (nodeF o r).2.1).2.2)).2)
theorem mem_tail2 {l : List W} {y : W} (h : y ∈ l.tail) : y ∈ l := List.mem_of_mem_tail h
theorem nodeF_sub (o : Nat) (r : List W) : (∀ y ∈ (nodeF o r).2.1, y ∈ r) ∧ (nodeF o r).2.1.length ≤ r.length := by
  unfold nodeF
  split
  · exact ⟨fun y h => h, Nat.le_refl _⟩
  · unfold fnP
    split
    · exact ⟨fun y h => mem_tail2 h, by rw [List.length_tail]; omega⟩
    · split
      · exact ⟨fun y h => mem_tail2 (mem_tail2 h), by rw [List.length_tail, List.length_tail]; omega⟩
      · exact ⟨fun y h => mem_tail2 h, by rw [List.length_tail]; omega⟩
/-- what node() has in memory -/
structure NdS (w0 w wx : World) (p q q9 : Nat) (l : List W) (bad : Bool) (n0 n1 n2 n3 n4 : Value) : Prop where
  ws : WsR 60 w0 wx p l bad
  qb : Bx6 wx q 57 (.int .i64 0) (.slice none 0 0) (.int .i64 0) (.int .i64 0) (.int .i64 0) (.slice none 0 0)
  n : Bx6 wx q9 57 n0 n1 n2 n3 n4 (.slice none 0 0)
  x : ExtQ (fun k => k = p) w wx
  d : w0.heap.size ≤ p ∧ (p < w.heap.size ∧ (w.heap.size ≤ q ∧ (w.heap.size ≤ q9 ∧ q ≠ q9)))
theorem bx6_extQ {Q : Nat → Prop} {w w' : World} {q : Nat} {T : TypeId} {a0 a1 a2 a3 a4 a5 : Value} (h : Bx6 w q T a0 a1 a2 a3 a4 a5) (he : ExtQ Q w w') (hq : ¬ Q q) : Bx6 w' q T a0 a1 a2 a3 a4 a5 := ⟨h.b.extQ he hq⟩
theorem NdS.step {w0 w wx wy : World} {p q q9 : Nat} {l l' : List W} {bad bad' : Bool} {n0 n1 n2 n3 n4 : Value} (h : NdS w0 w wx p q q9 l bad n0 n1 n2 n3 n4) (hw : WsR 60 w0 wy p l' bad') (he : ExtQ (fun k => k = p) wx wy) : NdS w0 w wy p q q9 l' bad' n0 n1 n2 n3 n4 :=
  ⟨hw, bx6_extQ h.qb he (fun e => by have := h.d; omega), bx6_extQ h.n he (fun e => by have := h.d; omega), h.x.trans he, h.d⟩
theorem NdS.e {w0 w wx wy : World} {p q q9 : Nat} {l : List W} {bad : Bool} {n0 n1 n2 n3 n4 : Value} (h : NdS w0 w wx p q q9 l bad n0 n1 n2 n3 n4) (he : Ext wx wy) : NdS w0 w wy p q q9 l bad n0 n1 n2 n3 n4 :=
  ⟨h.ws.e he, h.qb.ext he, h.n.ext he, h.x.trans (ExtQ.of he), h.d⟩
/-- the node's block is written -/
theorem NdS.put {w0 w wx wy : World} {p q q9 : Nat} {l : List W} {bad : Bool} {n0 n1 n2 n3 n4 m0 m1 m2 m3 m4 : Value} (h : NdS w0 w wx p q q9 l bad n0 n1 n2 n3 n4) (he : ExtQ (fun k => k = q9) wx wy) (hn : Bx6 wy q9 57 m0 m1 m2 m3 m4 (.slice none 0 0)) : NdS w0 w wy p q q9 l bad m0 m1 m2 m3 m4 :=
  ⟨h.ws.q he (fun e => by have h1 : p = q9 := e; have := h.d; omega) (fun k hk => by have h1 : k = q9 := hk; have := h.d; omega), bx6_extQ h.qb he (fun e => h.d.2.2.2.2 e), hn, exq_new h.x he (fun y h1 h2 => by have h3 : y = q9 := h2; have := h.d; omega), h.d⟩
/-- a row of numbers grows -/
theorem oe_ne {α : Type} [Enc α] {T E B p : Nat} {w : World} {v : Value} {l : List α} {cs : Array Value} (hb : Blk w p T cs) (ho : OE E B w v l) (hT : T ≠ E) : v.ownBlock ≠ some p := by
  intro e
  rcases ho.own.2 with ⟨rfl, -⟩ | ⟨g, cap, cur, rfl, _, hg, -⟩
  · simp [Value.ownBlock] at e
  · obtain rfl : g = p := by simpa [Value.ownBlock] using e
    have h2 : w.heap[g]? = some (.cells cs T (0, 0)) := hb
    rw [h2] at hg
    injection hg with hg
    injection hg with _ h3
    exact hT h3
theorem oe_extQ' {α : Type} [Enc α] {Q : Nat → Prop} {E B : Nat} {w w' : World} {v : Value} {l : List α} (h : OE E B w v l) (he : ExtQ Q w w') (hq : ∀ k, v.ownBlock = some k → ¬ Q k) : OE E B w' v l := OE.mk (ownsRow_extQ h.own he hq)
theorem ws_blk {T : TypeId} {w0 w : World} {p : Nat} {l : List W} {bad : Bool} (h : WsR T w0 w p l bad) : ∃ A c, Blk w p T #[.slice A l.length c, .bool bad] := by
  obtain ⟨A, c, _, h2⟩ := h.b
  exact ⟨A, c, h2⟩
theorem bel_exq {B : Nat} {w w' : World} (h : Below B w w') : ExtQ (fun k => B ≤ k) w w' := ⟨h.os, h.tape, h.output, h.size, fun x hx hn => h.block x (by omega)⟩
theorem NdS.grown {w0 w wx wy : World} {p q q9 : Nat} {l : List W} {bad : Bool} {n0 n1 n2 n3 n4 v : Value} {L : List Int} (h : NdS w0 w wx p q q9 l bad n0 n1 n2 n3 n4) (ho : OE 3 w.heap.size wx v L) (hg : wx.grownBy wy v.ownBlock) (hb : Below w.heap.size wx wy) (h0 : w0.heap.size ≤ w.heap.size) : NdS w0 w wy p q q9 l bad n0 n1 n2 n3 n4 := by
  obtain ⟨A, c, h1, h2⟩ := h.ws.b
  have hblk : ∀ {k : Nat} {T : TypeId} {cs : Array Value}, T ≠ 3 → Blk wx k T cs → Blk wy k T cs := fun {k T cs} hT hk => (hg.block k hk.lt fun e => oe_ne hk ho hT e.symm).trans hk
  exact ⟨⟨h.ws.low, h.ws.x.andQ (bel_exq hb) (fun k hk => by omega), A, c, h1, hblk (by decide) h2⟩, ⟨hblk (by decide) h.qb.b⟩, ⟨hblk (by decide) h.n.b⟩, exq_below h.x hb, h.d⟩
/-- the end of node() -/
structure NodeE (w w' : World) (p o : Nat) (r : List W) (at_ : Nat) (body : Bool) (e : Ending) : Prop where
  x : ∃ u, e = .returned (.tuple #[ndAg o (nodeP o r at_ body).1.kind (nodeP o r at_ body).1.fa (nodeP o r at_ body).1.a u (.slice none 0 0), .bool (!(nodeP o r at_ body).2)]) ∧ OE 3 w.heap.size w' u (nodeP o r at_ body).1.ins
  q : ExtQ (fun k => k = p) w w'
attribute [local irreducible] RE OE GlT betw opsAt fnsAt fnP named1 wnB
set_option maxRecDepth 100000 in
set_option maxHeartbeats 32000000 in
theorem wnode_any (w0 : World) (p o : Nat) (x : W) (r : List W) (at_ : Nat) (body : Bool) (w : World) (h : WsR 60 w0 w p (nameL at_ body :: [61] :: x :: r) false) (hp : p < w.heap.size) (hw : ∀ y ∈ r, y.length ≤ 1000000) (hl : r.length ≤ 1000000) (hat : at_ < 9223372036854775808)
    (ht : Tab w0) (h1 : OpsT w0) (h2 : FnsT w0) (ho1 : 1 ≤ o) (ho12 : o < 12) (hx : opsAt o = x) (hne : x ≠ []) (hb : ∀ j, j < o → opsAt j ≠ x) (hm : (nodeP o r at_ body).2 = false → mayB (nodeP o r at_ body).1 body = true) :
    Calls Tryz.prog 99 #[.pointer (some ⟨p, 0, none⟩), .int .i64 (at_ : Int), .bool body] w fun e w' => NodeE w w' p o r at_ body e := by
  have hal := (Ext.refl w).alloc (ndCs 0 0 0 0 (.slice none 0 0) (.slice none 0 0))
  have HX1 := Lib.hid hal
  have HB1 := Lib.hid (Bx6.new w 57 (.int .i64 0) (.slice none 0 0) (.int .i64 0) (.int .i64 0) (.int .i64 0) (.slice none 0 0))
  have HWS1 := Lib.hid (h.e hal)
  have HP := Lib.hid hp
  have HLOW := Lib.hid h.low
  have HSZ0 := Lib.hid (show w0.heap.size ≤ w.heap.size from h.x.size)
  have HT := Lib.hid (And.intro ht (And.intro h1 h2))
  have HRW := Lib.hid (And.intro hw hl)
  have HOO := Lib.hid (And.intro ho1 ho12)
  have HM := Lib.hid hm
  have HN1 := Lib.hid (fun w h => wnext_any w0 p (nameL at_ body :: [61] :: x :: r) false w h)
  have HN2 := Lib.hid (fun w h => wnext_any w0 p ([61] :: x :: r) false w h)
  have HN3 := Lib.hid (fun w h => wnext_any w0 p (x :: r) false w h)
  have HNM := Lib.hid (fun w ht => lname_any at_ body w hat ht)
  have HOF := Lib.hid (fun w h => lopOf_any x o w h ho12 hx hne hb)
  have HNE := Lib.hid hne
  have HFA := Lib.hid (fun w => lfamily_any (o : Int) w)
  obtain ⟨q, hq⟩ : ∃ q, q = w.heap.size := ⟨_, rfl⟩
  have HQ := Lib.hid hq
  generalize hnm : nameL at_ body = nm at *
  clear h hp hw hl hat ht h1 h2 ho1 ho12 hx hne hb hm hal hnm
  go_enter Tryz.func99, Tryz.ntmps99
  go_upto_region 1 with fail
  rw [← hq] at HB1 ⊢
  clear hq
  generalize w.alloc (ndCs 0 0 0 0 (.slice none 0 0) (.slice none 0 0)) = w1 at *
  go_wp2_with fail
  refine (HN1.out _ HWS1.out).mono ?_
  rintro e w2 ⟨rfl, hws2, hq2⟩
  have HWS2 := Lib.hid (show WsR 60 w0 w2 p ([61] :: x :: r) false from hws2)
  have HX2 := Lib.hid ((ExtQ.of (Q := fun k => k = p) HX1.out).trans hq2)
  have HB2 := Lib.hid (bx6_extQ HB1.out hq2 (by have := HP.out; have := HQ.out; omega))
  clear hws2 hq2
  go_wp2_with fail
  refine (HNM.out _ (HT.out.1.ext HWS2.out.x)).mono ?_
  rintro e w3 ⟨rfl, he3⟩
  have HWS3 := Lib.hid (HWS2.out.e he3)
  have HX3 := Lib.hid (HX2.out.trans (ExtQ.of he3))
  have HB3 := Lib.hid (HB2.out.ext he3)
  have b1 := bs_t (x := nm) (y := nm) rfl
  clear he3
  go_wp2_with fail
  refine (HN2.out _ HWS3.out).mono ?_
  rintro e w4 ⟨rfl, hws4, hq4⟩
  have HWS4 := Lib.hid (show WsR 60 w0 w4 p (x :: r) false from hws4)
  have HX4 := Lib.hid (HX3.out.trans hq4)
  have HB4 := Lib.hid (bx6_extQ HB3.out hq4 (by have := HP.out; have := HQ.out; omega))
  clear hws4 hq4 b1
  go_wp2_with fail
  refine (HN3.out _ HWS4.out).mono ?_
  rintro e w5 ⟨rfl, hws5, hq5⟩
  have HWS5 := Lib.hid (show WsR 60 w0 w5 p r false from hws5)
  have HX5 := Lib.hid (HX4.out.trans hq5)
  have HB5 := Lib.hid (bx6_extQ HB4.out hq5 (by have := HP.out; have := HQ.out; omega))
  clear hws5 hq5
  go_wp2_with fail
  refine (HOF.out _ (HT.out.2.1.ext HWS5.out.x)).mono ?_
  rintro e w6 ⟨rfl, rfl⟩
  have b2 := bs_f (x := x) (y := []) HNE.out
  have b3 := bs_n (x := x) (y := []) HNE.out
  have b4 : x.isEmpty = false := by cases x with | nil => exact absurd rfl HNE.out | cons _ _ => rfl
  have b5 := HNE.out
  have b6 : ((o : Int) == 0) = false := by have := HOO.out.1; simp; omega
  have b7 : ¬ (o : Int) = 0 := by have := HOO.out.1; omega
  have hal := (Ext.refl w5).alloc (ndCs o 0 0 0 (.slice none 0 0) (.slice none 0 0))
  have HB9 := Lib.hid (Bx6.new w5 57 (.int .i64 o) (.slice none 0 0) (.int .i64 0) (.int .i64 0) (.int .i64 0) (.slice none 0 0))
  have HWS6 := Lib.hid (HWS5.out.e hal)
  have HX6 := Lib.hid (HX5.out.trans (ExtQ.of hal))
  have HB6 := Lib.hid (HB5.out.ext hal)
  have HQZ := Lib.hid (show q < w5.heap.size ∧ w.heap.size ≤ w5.heap.size from ⟨HB5.out.b.lt, HX5.out.size⟩)
  clear hal
  go_upto_region 5 with fail
  obtain ⟨q9, hq9⟩ : ∃ q9, q9 = w5.heap.size := ⟨_, rfl⟩
  rw [← hq9] at HB9 HQZ ⊢
  clear hq9
  generalize w5.alloc (ndCs o 0 0 0 (.slice none 0 0) (.slice none 0 0)) = w7 at *
  have HS7 := Lib.hid (show NdS w0 w w7 p q q9 r false (.int .i64 o) (.slice none 0 0) (.int .i64 0) (.int .i64 0) (.int .i64 0) from ⟨HWS6.out, HB6.out, HB9.out, HX6.out, HLOW.out, HP.out, by have := HQ.out; omega, HQZ.out.2, by have := HQZ.out.1; omega⟩)
  clear HB1 HB2 HB3 HB4 HB5 HB6 HB9 HWS1 HWS2 HWS3 HWS4 HWS5 HWS6 HX1 HX2 HX3 HX4 HX5 HX6 HN1 HN2 HN3 HNM HOF
  obtain ⟨c0, c1, c2, c3, c4, c5⟩ := HS7.out.n.at_
  have HFR := Lib.hid (fmly_range (o : Int))
  have HND := Lib.hid (show nodeP o r at_ body = (.mk o (insP body at_ (numP o (nodeF o r).2.1).2.1 ((nodeF o r).2.2 || !(numP o (nodeF o r).2.1).2.2)).1 (nodeF o r).1.1 (nodeF o r).1.2 (numP o (nodeF o r).2.1).1 [], (insP body at_ (numP o (nodeF o r).2.1).2.1 ((nodeF o r).2.2 || !(numP o (nodeF o r).2.1).2.2)).2) from rfl)
  have HNF := Lib.hid (show nodeF o r = if fmly (o : Int) = 0 then ((0, 0), r, false) else fnP r (fmly (o : Int)) from rfl)
  have HNL := Lib.hid (nodeF_sub o r)
  generalize nodeF o r = NF at *
  generalize hfr : fmly (o : Int) = f at *
  clear hfr
  go_wp2_with fail
  refine (HFA.out _).mono ?_
  rintro e w8 ⟨rfl, rfl⟩
  clear c0 c1 c2 c3 c4 c5
  go_upto_if 41 with fail
  go_cut [] (fun wx => NdS w0 w wx p q q9 NF.2.1 NF.2.2 (.int .i64 o) (.slice none 0 0) (.int .i64 NF.1.1) (.int .i64 NF.1.2) (.int .i64 0))
  case first =>
    obtain ⟨c0, c1, c2, c3, c4, c5⟩ := HS7.out.n.at_
    by_cases hf : f = 0
    · have h0 := HNF.out
      rw [if_pos hf] at h0
      have H0 := Lib.hid h0
      clear h0
      subst hf
      go_wp2
      go_meet
      rw [H0.out]
      exact HS7.out
    · have h0 := HNF.out
      rw [if_neg hf] at h0
      have H0 := Lib.hid h0
      clear h0
      have q0 : 0 < f := by have := HFR.out.1; omega
      have HCF := Lib.hid (wfun_any w0 p r f w7 HS7.out.ws (by have := HS7.out.d.2.1; have := HS7.out.x.size; omega) HRW.out.1 HT.out.2.2 (by omega) HFR.out.2)
      rw [← H0.out] at HCF
      clear c0 c1 c2 c3 c4 c5
      go_wp2_with fail
      refine HCF.out.mono ?_
      rintro e w9 ⟨rfl, hws9, hq9⟩
      have HS9 := Lib.hid (HS7.out.step hws9 hq9)
      clear hws9 hq9 HCF
      obtain ⟨c0, c1, c2, c3, c4, c5⟩ := HS9.out.n.at_
      have f2 : w9.frozen? ⟨q9, 2, none⟩ = false := HS9.out.n.b.frozen 2
      have f3 : w9.frozen? ⟨q9, 3, none⟩ = false := HS9.out.n.b.frozen 3
      go_wp2
      go_meet
      exact HS9.out.put (((ExtQ.refl (fun k => k = q9) w9).setCell (p := ⟨q9, 2, none⟩) rfl _).setCell (p := ⟨q9, 3, none⟩) rfl _) ⟨by simpa using (HS9.out.n.b.set_ 2 (.int .i64 NF.1.1)).set_ 3 (.int .i64 NF.1.2)⟩
  case rest =>
    have hcut2 := hcut
    rename World => wc
    have HSC := Lib.hid hcut2
    clear hcut hcut2 HNF HS7 HFA HFR
    obtain ⟨⟨kd, fa⟩, l1, b1⟩ := NF
    dsimp only at HSC HND HNL
    have HLW := Lib.hid (And.intro (fun y (h : y ∈ l1) => HRW.out.1 y (HNL.out.1 y h)) (Nat.le_trans HNL.out.2 HRW.out.2))
    have HNP := Lib.hid (show numP o l1 = if (o : Int) = 11 then ((named1 (l1.headD []) false).1, l1.tail, (named1 (l1.headD []) false).2) else if countedB (o : Int) = true then ((wnB (l1.headD [])).1, l1.tail, (wnB (l1.headD [])).2) else (0, l1, true) from rfl)
    have HLP := Lib.hid (show (∀ y ∈ (numP o l1).2.1, y.length ≤ 1000000) ∧ (numP o l1).2.1.length ≤ 1000000 from by
      unfold numP
      split
      · exact ⟨fun y h => HLW.out.1 y (mem_tail2 h), by rw [List.length_tail]; have := HLW.out.2; omega⟩
      · split
        · exact ⟨fun y h => HLW.out.1 y (mem_tail2 h), by rw [List.length_tail]; have := HLW.out.2; omega⟩
        · exact HLW.out)
    generalize numP o l1 = N at *
    obtain ⟨a, l2, ok⟩ := N
    dsimp only at HND HLP
    have HCA := Lib.hid (fun w h => wnamed_any w0 p l1 b1 false w h HLW.out.1)
    have HCB := Lib.hid (fun w h => wnumber_any w0 p l1 b1 w h HLW.out.1)
    have HCC := Lib.hid (fun w => lcounted_any (o : Int) w)
    generalize named1 (l1.headD []) false = NM at *
    generalize wnB (l1.headD []) = WN at *
    generalize hcb : countedB (o : Int) = cb at *
    clear hcb
    have hcase : ((o : Int) = 11 ∧ (a, l2, ok) = (NM.1, l1.tail, NM.2)) ∨ (¬ (o : Int) = 11 ∧ cb = true ∧ (a, l2, ok) = (WN.1, l1.tail, WN.2)) ∨ (¬ (o : Int) = 11 ∧ cb = false ∧ (a, l2, ok) = (0, l1, true)) := by
      have h := HNP.out
      by_cases o11 : (o : Int) = 11
      · rw [if_pos o11] at h; exact .inl ⟨o11, h⟩
      · rw [if_neg o11] at h
        cases cb
        · rw [if_neg (by decide)] at h; exact .inr (.inr ⟨o11, rfl, h⟩)
        · rw [if_pos rfl] at h; exact .inr (.inl ⟨o11, rfl, h⟩)
    clear HNP HNL
    generalize l1.tail = l1t at *
    obtain ⟨c0, c1, c2, c3, c4, c5⟩ := HSC.out.n.at_
    rcases hcase with ⟨o11, h0⟩ | ⟨o11, rfl, h0⟩ | ⟨o11, rfl, h0⟩
    focus
      injection h0 with ha h0
      injection h0 with hl2 hok
      rw [← ha, ← hl2, ← hok] at HCA
      clear ha hl2 hok
      go_wp2_with fail
      refine (HCA.out _ HSC.out.ws).mono ?_
      rintro e we ⟨rfl, hwse, hqe⟩
      have HSE := Lib.hid (HSC.out.step hwse hqe)
      clear hwse hqe c0 c1 c2 c3 c4 c5
      obtain ⟨c0, c1, c2, c3, c4, c5⟩ := HSE.out.n.at_
      have f4 : we.frozen? ⟨q9, 4, none⟩ = false := HSE.out.n.b.frozen 4
      go_upto_region 14 with fail
      have HSD := Lib.hid (HSE.out.put ((ExtQ.refl (fun k => k = q9) we).setCell (p := ⟨q9, 4, none⟩) rfl (.int .i64 a)) ⟨by simpa using HSE.out.n.b.set_ 4 (.int .i64 a)⟩)
      clear c0 c1 c2 c3 c4 c5 f4 HSE
      generalize we.setCell ⟨q9, 4, none⟩ (.int .i64 a) = wd at *
    rotate_left
    focus
      injection h0 with ha h0
      injection h0 with hl2 hok
      rw [← ha, ← hl2, ← hok] at HCB
      clear ha hl2 hok
      have b11 : ((o : Int) == 11) = false := by simpa using o11
      go_wp2_with fail
      refine (HCC.out _).mono ?_
      rintro e wx ⟨rfl, rfl⟩
      go_wp2_with fail
      refine (HCB.out _ HSC.out.ws).mono ?_
      rintro e we ⟨rfl, hwse, hqe⟩
      have HSE := Lib.hid (HSC.out.step hwse hqe)
      clear hwse hqe c0 c1 c2 c3 c4 c5
      obtain ⟨c0, c1, c2, c3, c4, c5⟩ := HSE.out.n.at_
      have f4 : we.frozen? ⟨q9, 4, none⟩ = false := HSE.out.n.b.frozen 4
      go_upto_region 14 with fail
      have HSD := Lib.hid (HSE.out.put ((ExtQ.refl (fun k => k = q9) we).setCell (p := ⟨q9, 4, none⟩) rfl (.int .i64 a)) ⟨by simpa using HSE.out.n.b.set_ 4 (.int .i64 a)⟩)
      clear c0 c1 c2 c3 c4 c5 f4 HSE
      generalize we.setCell ⟨q9, 4, none⟩ (.int .i64 a) = wd at *
    rotate_left
    focus
      injection h0 with ha h0
      injection h0 with hl2 hok
      have b11 : ((o : Int) == 11) = false := by simpa using o11
      go_wp2_with fail
      refine (HCC.out _).mono ?_
      rintro e wx ⟨rfl, rfl⟩
      go_upto_region 14 with fail
      have HSD := Lib.hid (show NdS w0 w wc p q q9 l2 (b1 || !ok) (.int .i64 o) (.slice none 0 0) (.int .i64 kd) (.int .i64 fa) (.int .i64 a) from by
        rw [ha, hl2, hok]
        simpa using HSC.out)
      clear ha hl2 hok c0 c1 c2 c3 c4 c5
      generalize wc = wd at *
    all_goals
      clear HSC HCA HCB HCC HLW o11
      generalize (b1 || !ok) = b2 at *
      have HI0 := Lib.hid (show ∃ (u : Value) (L : List Int) (s : List W) (b : Bool), NdS w0 w wd p q q9 s b (.int .i64 o) u (.int .i64 kd) (.int .i64 fa) (.int .i64 a) ∧ OE 3 w.heap.size wd u L ∧ (L ++ (insP body at_ s b).1 = (insP body at_ l2 b2).1 ∧ (insP body at_ s b).2 = (insP body at_ l2 b2).2) ∧ L.length + s.length ≤ 1000000 ∧ ∀ y ∈ s, y.length ≤ 1000000 from ⟨.slice none 0 0, [], l2, b2, HSD.out, OE.nilS _ _ _, ⟨rfl, rfl⟩, by simpa using HLP.out.2, HLP.out.1⟩)
      clear HSD
      go_wp2
      go_loopw [11] (fun _ wr => ∃ (u : Value) (L : List Int) (s : List W) (b : Bool), NdS w0 w wr p q q9 s b (.int .i64 o) u (.int .i64 kd) (.int .i64 fa) (.int .i64 a) ∧ OE 3 w.heap.size wr u L ∧ (L ++ (insP body at_ s b).1 = (insP body at_ l2 b2).1 ∧ (insP body at_ s b).2 = (insP body at_ l2 b2).2) ∧ L.length + s.length ≤ 1000000 ∧ ∀ y ∈ s, y.length ≤ 1000000) (fun _ wr => match wr.cell? ⟨p, 0, none⟩ with | some (.slice _ n _) => n | _ => 0)
      case atStart => exact HI0.out
      case round =>
        obtain ⟨u, L, s, b, hs, hou, ⟨hi1, hi2⟩, hlen, hlw⟩ := hrel
        rename World => wr
        have HS := Lib.hid hs
        have HOU := Lib.hid hou
        have HI1 := Lib.hid hi1
        have HI2 := Lib.hid hi2
        have HLEN := Lib.hid hlen
        have HLW := Lib.hid hlw
        obtain ⟨Au, cu, rfl⟩ := hou.re.form
        obtain ⟨A, c, hbp⟩ := ws_blk hs.ws
        have d0 : wr.cell? ⟨p, 0, none⟩ = some (.slice A s.length c) := (hbp.cell 0).trans rfl
        have d1 : wr.cell? ⟨p, 1, none⟩ = some (.bool b) := (hbp.cell 1).trans rfl
        have D0 := Lib.hid d0
        clear hs hou hi1 hi2 hlen hlw hbp
        by_cases hgo : s ≠ [] ∧ b = false
        · obtain ⟨hs1, rfl⟩ := hgo
          obtain ⟨y, s, rfl⟩ : ∃ y s', s = y :: s' := by cases s with | nil => exact absurd rfl hs1 | cons y s' => exact ⟨y, s', rfl⟩
          have q0 : (0 : Int) < ((y :: s).length : Int) := by rw [List.length_cons]; omega
          have q1 : 0 < (y :: s).length := by simp
          have HCM := Lib.hid (wnamed_any w0 p (y :: s) false body wr HS.out.ws HLW.out)
          have hstep : insP body at_ (y :: s) false = ((named1 y body).1 :: (insP body at_ s (!(named1 y body).2 || decide ((at_ : Int) ≤ (named1 y body).1))).1, (insP body at_ s (!(named1 y body).2 || decide ((at_ : Int) ≤ (named1 y body).1))).2) := rfl
          rw [hstep] at HI1 HI2
          have HCM2 := Lib.hid (show Calls Tryz.prog 100 #[.pointer (some ⟨p, 0, none⟩), .bool body] wr fun e w' => e = .returned (.int .i64 (named1 y body).1) ∧ WsR 60 w0 w' p s (false || !(named1 y body).2) ∧ ExtQ (fun k => k = p) wr w' from HCM.out)
          clear HCM hstep hs1
          generalize named1 y body = ny at *
          obtain ⟨ni, nk⟩ := ny
          obtain ⟨n, hn⟩ : ∃ n, (y :: s).length = n := ⟨_, rfl⟩
          have HNN := Lib.hid (show n = s.length + 1 from by rw [← hn]; simp)
          rw [hn] at q0 q1 d0 D0
          clear hn
          go_wp2_with fail
          refine HCM2.out.mono ?_
          rintro e w2 ⟨rfl, hws2, hq2⟩
          have HS2 := Lib.hid (HS.out.step hws2 hq2)
          have HO2 := Lib.hid (oe_extQ HOU.out hq2 (fun k hk => by have := HS.out.d.2.1; omega))
          obtain ⟨A2, c2, hbp2⟩ := ws_blk hws2
          have HBP2 := Lib.hid hbp2
          have e1 : w2.cell? ⟨p, 1, none⟩ = some (.bool (false || !nk)) := (hbp2.cell 1).trans rfl
          have f1 : w2.frozen? ⟨p, 1, none⟩ = false := hbp2.frozen 1
          clear hws2 hq2 hbp2 d0 d1
          obtain ⟨nb, hnb⟩ : ∃ nb, (!nk || decide ((at_ : Int) ≤ ni)) = nb := ⟨_, rfl⟩
          rw [hnb] at HI1 HI2
          have HNB := Lib.hid hnb
          clear hnb
          have hq3 : ExtQ (fun k => k = p) w2 (w2.setCell ⟨p, 1, none⟩ (.bool nb)) := ExtQ.setCell (Q := fun k => k = p) (ExtQ.refl _ _) (p := ⟨p, 1, none⟩) rfl _
          have HS3 := Lib.hid (show NdS w0 w (w2.setCell ⟨p, 1, none⟩ (.bool nb)) p q q9 s nb (.int .i64 o) (.slice Au L.length cu) (.int .i64 kd) (.int .i64 fa) (.int .i64 a) from HS2.out.step (by
            obtain ⟨A9, c9, hr9, hb9⟩ := HS2.out.ws.b
            exact ⟨HS2.out.ws.low, HS2.out.ws.x.andQ hq3 (fun k hk => by have h1 : k = p := hk; have := HS2.out.d; omega), A9, c9, hr9, by simpa using hb9.set_ 1 (.bool nb)⟩) hq3)
          have HO3 := Lib.hid (oe_extQ HO2.out hq3 (fun k hk => by have h1 := HS.out.d.2.1; intro (e : k = p); omega))
          clear hq3
          have hcases : (nk = false ∧ nb = true) ∨ (nk = true ∧ ((at_ : Int) ≤ ni ∧ nb = true ∨ decide ((at_ : Int) ≤ ni) = false ∧ nb = false)) := by
            have h := HNB.out
            cases nk with
            | false => exact .inl ⟨rfl, by rw [← h]; rfl⟩
            | true =>
              by_cases hle : (at_ : Int) ≤ ni
              · exact .inr ⟨rfl, .inl ⟨hle, by rw [← h, decide_eq_true hle]; rfl⟩⟩
              · exact .inr ⟨rfl, .inr ⟨decide_eq_false hle, by rw [← h, decide_eq_false hle]; rfl⟩⟩
          rcases hcases with ⟨rfl, rfl⟩ | ⟨rfl, ⟨hle, rfl⟩ | ⟨hle, rfl⟩⟩
          all_goals
            go_upto_region 17 with fail
            generalize hw3 : w2.setCell ⟨p, 1, none⟩ _ = w3 at *
            have HW3 := Lib.hid hw3
            have hal : Ext w3 (w3.alloc (.cells #[.int .i64 ni] 3)) := (Ext.refl _).alloc _
            have HLI := Lib.hid (int_lit w3 ni)
            have HS4 := Lib.hid (HS3.out.e hal)
            have HO4 := Lib.hid (HO3.out.ext hal)
            obtain ⟨c0, c1, c2, c3, c4, c5⟩ := HS3.out.n.at_
            clear hal e1 f1 hw3
            go_wp2_with (at_builtin; refine wpList_appE rfl elemI _ _ _ rfl w.heap.size _ _ L [ni] rfl HO4.out rfl HLI.out (by have h1 := HLEN.out; rw [List.length_cons] at h1; simp only [List.length_singleton]; omega) (by have h1 := HLEN.out; rw [List.length_cons] at h1; simp only [List.length_singleton]; unfold maxLen; omega) (by have := HS4.out.x.size; exact this) ?_)
            intro v9 w9 ho9 hb9 hg9
            have HS9 := Lib.hid (HS4.out.grown HO4.out hg9 hb9 HSZ0.out)
            obtain ⟨A9, c9, rfl⟩ := ho9.re.form
            have HO9 := Lib.hid ho9
            have g1 : w9.frozen? ⟨q9, 1, none⟩ = false := HS9.out.n.b.frozen 1
            have k1 := HS9.out.n.b.cell 1
            clear ho9 hb9 hg9 c0 c1 c2 c3 c4 c5
            generalize hLn : (L ++ [ni]).length = Ln at *
            have HLn := Lib.hid hLn
            clear hLn
            go_wp2
            have HQ9 := Lib.hid (show ExtQ (fun k => k = q9) w9 (w9.setCell ⟨q9, 1, none⟩ (.slice A9 Ln c9)) from ExtQ.setCell (Q := fun k => k = q9) (ExtQ.refl _ _) (p := ⟨q9, 1, none⟩) rfl _)
            have HSE := Lib.hid (HS9.out.put HQ9.out (m1 := .slice A9 Ln c9) ⟨by simpa using HS9.out.n.b.set_ 1 (.slice A9 Ln c9)⟩)
            have HOE := Lib.hid (show OE 3 w.heap.size (w9.setCell ⟨q9, 1, none⟩ (.slice A9 Ln c9)) (.slice A9 Ln c9) (L ++ [ni]) from OE.mk (ownsRow_extQ HO9.out.own HQ9.out fun k hk e => oe_ne HS9.out.n.b HO9.out (by decide) (by rw [hk, e])))
            obtain ⟨Az, cz, hbz⟩ := ws_blk HSE.out.ws
            have dz := (hbz.cell 0)
            have d0 := D0.out
            refine ⟨⟨_, L ++ [ni], s, _, HSE.out, HOE.out, ⟨by rw [← HI1.out, List.append_assoc]; rfl, HI2.out⟩, by have h1 := HLEN.out; rw [List.length_cons] at h1; simp; omega, fun z hz => HLW.out z (List.mem_cons_of_mem _ hz)⟩, ?_⟩
            rw [dz, d0]
            show s.length < n
            have := HNN.out
            omega
        · have hE : insP body at_ s b = ([], b) := by
            cases s with
            | nil => rfl
            | cons y t =>
              cases b with
              | true => rfl
              | false => exact absurd ⟨by simp, rfl⟩ hgo
          rw [hE, List.append_nil] at HI1
          rw [hE] at HI2
          have HNP2 := Lib.hid (show nodeP o r at_ body = (.mk o L kd fa a [], b) from by rw [HND.out, ← HI1.out, ← HI2.out])
          rw [HNP2.out] at HM
          have hsb : s = [] ∨ (0 < s.length ∧ b = true) := by
            cases s with
            | nil => exact .inl rfl
            | cons y t =>
              cases b with
              | true => exact .inr ⟨by simp, rfl⟩
              | false => exact absurd ⟨by simp, rfl⟩ hgo
          clear hgo hE
          rcases hsb with rfl | ⟨hpos, rfl⟩
          focus
            have q0 : ¬ (0 : Int) < (([] : List W).length : Int) := by simp
            have q1 : ¬ 0 < ([] : List W).length := by simp
            go_upto_region 18 with fail
          rotate_left
          focus
            obtain ⟨n, hn⟩ : ∃ n, s.length = n := ⟨_, rfl⟩
            rw [hn] at d0 hpos
            have q0 : (0 : Int) < (n : Int) := by omega
            clear hn
            go_upto_region 18 with fail
          rotate_left
          cases b
          focus
            have HMAY := Lib.hid (fun W hu => lmay_any (o : Int) kd fa a (.slice Au L.length cu) (.slice none 0 0) L [] at_ body W hu ⟨none, 0, rfl⟩ (HM.out rfl) (by have := HLEN.out; omega))
            have HUU := Lib.hid HOU.out.re
            obtain ⟨k0, k1, k2, k3, k4, k5⟩ := HS.out.n.at_
            clear d0
            have HQB := Lib.hid HS.out.qb
            have n2 : ¬ q = q9 := HS.out.d.2.2.2.2
            have n3 : ¬ p = q := fun e => by have := HS.out.d; omega
            go_cut [7] (fun s7 wx => s7 = .bool true ∧ Bx6 wx q 57 (.int .i64 (o : Int)) (.slice Au L.length cu) (.int .i64 kd) (.int .i64 fa) (.int .i64 a) (.slice none 0 0) ∧ OE 3 w.heap.size wx (.slice Au L.length cu) L ∧ ExtQ (fun k => k = p) w wx)
            case first =>
              refine wp_region_lateY 11 [] [] Ext Ext (fun _ => True) (by kernel_rfl) (by kernel_rfl) (by kernel_rfl) (by kernel_rfl) (by kernel_rfl) (by kernel_rfl) (by kernel_rfl) rfl rfl rfl (fun _ _ _ _ h => h) (by kernel_rfl) (by kernel_rfl) (by kernel_rfl) (by rfl) (by rfl) (by kernel_rfl) (by kernel_rfl) (by kernel_rfl) (fun _ _ _ x y => x.trans y) Ext.refl (fun _ _ x => x) (Ext.refl _).drew (fun _ _ x _ => x) trivial ?_
              refine wpY_val rfl rfl (by first | exact runs0 | exact runs1 rfl) Ext.refl rfl ?_; apply Exists.intro; refine ⟨?_, ?_⟩
              · intro a w' hR h1
                have e1 : _ = _ := h1
                have x0 := hR.cell k0
                have x1 := hR.cell k1
                have x2 := hR.cell k2
                have x3 := hR.cell k3
                have x4 := hR.cell k4
                have x5 := hR.cell k5
                go_simp
                rfl
              refine ya ?_
              refine yl1 d1 ?_
              refine ya1 ?_
              refine ya1 ?_
              refine wpY_val rfl rfl (by first | exact runs0 | exact runs1 rfl) Ext.refl rfl ?_; apply Exists.intro; refine ⟨?_, ?_⟩
              · intro a w' hR h1
                have e1 : _ = _ := h1
                have x0 := hR.cell k0
                have x1 := hR.cell k1
                have x2 := hR.cell k2
                have x3 := hR.cell k3
                have x4 := hR.cell k4
                have x5 := hR.cell k5
                go_simp
                rfl
              refine ya1 ?_
              refine ya1 ?_
              refine wpY_call (fun v _ => v = .bool true) rfl rfl (by exact runs1 rfl) rfl (fun _ _ _ h _ => h) ?_ ?_
              · intro a w' hR h1 h2 h3 K hK
                have e1 : _ = _ := h1
                have e2 : _ = _ := h2
                have e3 : _ = _ := h3
                go_simp
                refine (HMAY.out w' (RE.ext HUU.out hR)).mono ?_
                rintro e w2 ⟨rfl, he⟩
                exact hK _ _ he rfl
              refine ya1 ?_
              refine wpY_done ?_
              intro w2 hx2 hS2
              iterate 12 (rintro _ rfl)
              dsimp only [FinV]
              go_simp
              have hx2 : Ext wr w2 := hx2
              have HX2 := Lib.hid hx2
              simp only [thenTail, List.drop_succ_cons, List.drop_zero]
              have HQ2 := Lib.hid (HQB.out.ext hx2)
              have HO2 := Lib.hid (HOU.out.ext hx2)
              clear k0 k1 k2 k3 k4 k5 d1 hx2 hS2
              obtain ⟨z0, z1, z2, z3, z4, z5⟩ := HQ2.out.at_
              have f0 : w2.frozen? ⟨q, 0, none⟩ = false := HQ2.out.b.frozen 0
              have f1 : w2.frozen? ⟨q, 1, none⟩ = false := HQ2.out.b.frozen 1
              have f2 : w2.frozen? ⟨q, 2, none⟩ = false := HQ2.out.b.frozen 2
              have f3 : w2.frozen? ⟨q, 3, none⟩ = false := HQ2.out.b.frozen 3
              have f4 : w2.frozen? ⟨q, 4, none⟩ = false := HQ2.out.b.frozen 4
              have f5 : w2.frozen? ⟨q, 5, none⟩ = false := HQ2.out.b.frozen 5
              go_wp2
              go_meet
              exact ⟨rfl, HQ2.out.fill (.int .i64 (o : Int)) (.slice Au L.length cu) (.int .i64 kd) (.int .i64 fa) (.int .i64 a) (.slice none 0 0), oe_extQ' HO2.out (extQ6 (ExtQ.refl (fun k => k = q) w2) (q := q) rfl (.int .i64 (o : Int)) (.slice Au L.length cu) (.int .i64 kd) (.int .i64 fa) (.int .i64 a) (.slice none 0 0)) (fun k hk e => oe_ne HQ2.out.b HO2.out (by decide) (by rw [hk]; exact congrArg some e)), exq_new (HS.out.x.trans (ExtQ.of HX2.out)) (extQ6 (ExtQ.refl (fun k => k = q) w2) (q := q) rfl (.int .i64 (o : Int)) (.slice Au L.length cu) (.int .i64 kd) (.int .i64 fa) (.int .i64 a) (.slice none 0 0)) (fun y h1 h2 => by have h3 : y = q := h2; have := HQ.out; omega)⟩
            case rest =>
              obtain ⟨rfl, hbq, hoq, hxq⟩ := hcut
              rename World => wz
              have HF := Lib.hid hbq
              have HOF2 := Lib.hid (And.intro hoq hxq)
              obtain ⟨y0, y1, y2, y3, y4, y5⟩ := hbq.at_
              clear hbq hoq hxq
              go_wp2
              exact bodyPost_ret (v := .tuple #[.agg #[.int .i64 (o : Int), .slice Au L.length cu, .int .i64 kd, .int .i64 fa, .int .i64 a, .slice none 0 0], .bool true]) (by simp [results, Tryz.results99, go_sem, y0, y1, y2, y3, y4, y5]) rfl ⟨⟨_, by rw [HNP2.out]; rfl, by rw [HNP2.out]; exact HOF2.out.1⟩, HOF2.out.2⟩
          all_goals
            obtain ⟨k0, k1, k2, k3, k4, k5⟩ := HS.out.n.at_
            clear d0
            have HQB := Lib.hid HS.out.qb
            have n2 : ¬ q = q9 := HS.out.d.2.2.2.2
            have n3 : ¬ p = q := fun e => by have := HS.out.d; omega
            go_cut [7] (fun s7 wx => s7 = .bool false ∧ Bx6 wx q 57 (.int .i64 (o : Int)) (.slice Au L.length cu) (.int .i64 kd) (.int .i64 fa) (.int .i64 a) (.slice none 0 0) ∧ OE 3 w.heap.size wx (.slice Au L.length cu) L ∧ ExtQ (fun k => k = p) w wx)
            case first =>
              refine wp_region_lateY 11 [] [] Ext Ext (fun _ => True) (by kernel_rfl) (by kernel_rfl) (by kernel_rfl) (by kernel_rfl) (by kernel_rfl) (by kernel_rfl) (by kernel_rfl) rfl rfl rfl (fun _ _ _ _ h => h) (by kernel_rfl) (by kernel_rfl) (by kernel_rfl) (by rfl) (by rfl) (by kernel_rfl) (by kernel_rfl) (by kernel_rfl) (fun _ _ _ x y => x.trans y) Ext.refl (fun _ _ x => x) (Ext.refl _).drew (fun _ _ x _ => x) trivial ?_
              refine wpY_val rfl rfl (by first | exact runs0 | exact runs1 rfl) Ext.refl rfl ?_; apply Exists.intro; refine ⟨?_, ?_⟩
              · intro a w' hR h1
                have e1 : _ = _ := h1
                have x0 := hR.cell k0
                have x1 := hR.cell k1
                have x2 := hR.cell k2
                have x3 := hR.cell k3
                have x4 := hR.cell k4
                have x5 := hR.cell k5
                go_simp
                rfl
              refine ya ?_
              refine yl1 d1 ?_
              refine ya1 ?_
              refine ya1 ?_
              iterate 4 (refine wpY_skip rfl rfl (by first | exact .inl rfl | exact .inr rfl) ?_)
              refine ya1 ?_
              refine wpY_done ?_
              intro w2 hx2 hS2
              iterate 12 (rintro _ rfl)
              dsimp only [FinV]
              go_simp
              have hx2 : Ext wr w2 := hx2
              have HX2 := Lib.hid hx2
              simp only [thenTail, List.drop_succ_cons, List.drop_zero]
              have HQ2 := Lib.hid (HQB.out.ext hx2)
              have HO2 := Lib.hid (HOU.out.ext hx2)
              clear k0 k1 k2 k3 k4 k5 d1 hx2 hS2
              obtain ⟨z0, z1, z2, z3, z4, z5⟩ := HQ2.out.at_
              have f0 : w2.frozen? ⟨q, 0, none⟩ = false := HQ2.out.b.frozen 0
              have f1 : w2.frozen? ⟨q, 1, none⟩ = false := HQ2.out.b.frozen 1
              have f2 : w2.frozen? ⟨q, 2, none⟩ = false := HQ2.out.b.frozen 2
              have f3 : w2.frozen? ⟨q, 3, none⟩ = false := HQ2.out.b.frozen 3
              have f4 : w2.frozen? ⟨q, 4, none⟩ = false := HQ2.out.b.frozen 4
              have f5 : w2.frozen? ⟨q, 5, none⟩ = false := HQ2.out.b.frozen 5
              go_wp2
              go_meet
              exact ⟨rfl, HQ2.out.fill (.int .i64 (o : Int)) (.slice Au L.length cu) (.int .i64 kd) (.int .i64 fa) (.int .i64 a) (.slice none 0 0), oe_extQ' HO2.out (extQ6 (ExtQ.refl (fun k => k = q) w2) (q := q) rfl (.int .i64 (o : Int)) (.slice Au L.length cu) (.int .i64 kd) (.int .i64 fa) (.int .i64 a) (.slice none 0 0)) (fun k hk e => oe_ne HQ2.out.b HO2.out (by decide) (by rw [hk]; exact congrArg some e)), exq_new (HS.out.x.trans (ExtQ.of HX2.out)) (extQ6 (ExtQ.refl (fun k => k = q) w2) (q := q) rfl (.int .i64 (o : Int)) (.slice Au L.length cu) (.int .i64 kd) (.int .i64 fa) (.int .i64 a) (.slice none 0 0)) (fun y h1 h2 => by have h3 : y = q := h2; have := HQ.out; omega)⟩
            case rest =>
              obtain ⟨rfl, hbq, hoq, hxq⟩ := hcut
              rename World => wz
              have HF := Lib.hid hbq
              have HOF2 := Lib.hid (And.intro hoq hxq)
              obtain ⟨y0, y1, y2, y3, y4, y5⟩ := hbq.at_
              clear hbq hoq hxq
              go_wp2
              exact bodyPost_ret (v := .tuple #[.agg #[.int .i64 (o : Int), .slice Au L.length cu, .int .i64 kd, .int .i64 fa, .int .i64 a, .slice none 0 0], .bool false]) (by simp [results, Tryz.results99, go_sem, y0, y1, y2, y3, y4, y5]) rfl ⟨⟨_, by rw [HNP2.out]; rfl, by rw [HNP2.out]; exact HOF2.out.1⟩, HOF2.out.2⟩
end Go.Proofs.YtpmgmiiidfconaaGreatDoor
