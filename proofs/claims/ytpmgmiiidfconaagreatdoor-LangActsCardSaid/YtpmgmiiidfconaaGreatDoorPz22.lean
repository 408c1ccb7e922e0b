/-
  LaNums, packed: what the claim needs of them.
-/
import Derived.Test.YtpmgmiiidfconaaGreatDoorPz20
import Derived.Test.YtpmgmiiidfconaaGreatDoorPz21
set_option linter.unusedVariables false
set_option linter.unusedSimpArgs false
namespace Go.Ox.La
open Go Go.Lib Go.Ox Go.RowKit
theorem wnsOk_cons (x : W) (l : List W) : wnsOk (x :: l) = ((wnB x).2 && wnsOk l) := rfl
theorem exq_below {Q : Nat → Prop} {a b c : World} (h : ExtQ Q a b) (k : Below a.heap.size b c) : ExtQ Q a c :=
  ⟨k.os.trans h.os, k.tape.trans h.tape, k.output.trans h.output, Nat.le_trans h.size k.size, fun x hx hn => (k.block x hx).trans (h.block x hx hn)⟩
theorem exq_new {Q R : Nat → Prop} {a b c : World} (h : ExtQ Q a b) (k : ExtQ R b c) (hr : ∀ x, x < a.heap.size → R x → Q x) : ExtQ Q a c :=
  ⟨k.os.trans h.os, k.tape.trans h.tape, k.output.trans h.output, Nat.le_trans h.size k.size, fun x hx hn => (k.block x (Nat.lt_of_lt_of_le hx h.size) fun q => hn (hr x hx q)).trans (h.block x hx hn)⟩
theorem oe_extQ {α : Type} [Enc α] {Q : Nat → Prop} {E B : Nat} {w w' : World} {v : Value} {l : List α} (h : OE E B w v l) (he : ExtQ Q w w') (hq : ∀ k, B ≤ k → ¬ Q k) : OE E B w' v l := OE.mk (ownsRow_extQ h.own he fun k hk => hq k (h.own.lt k hk).1)
theorem WsR.bel {T : TypeId} {w0 w w' : World} {p B : Nat} {l : List W} {bad : Bool} (h : WsR T w0 w p l bad) (he : Below B w w') (hp : p < B) (hb : w0.heap.size ≤ B) : WsR T w0 w' p l bad :=
  h.q (Q := fun k => B ≤ k) ⟨he.os, he.tape, he.output, he.size, fun x hx hn => he.block x (by omega)⟩ (by omega) (fun k hk => by omega)
theorem wnsB_cons (x : W) (l : List W) : wnsB (x :: l) = (wnB x).1 :: wnsB l := rfl
end Go.Ox.La
namespace Go.Proofs.YtpmgmiiidfconaaGreatDoor
open Go.RowKit Go.Ox Go.Ox.Gr Go.Ox.Sc Go.Ox.La Go.Shelf
attribute [local irreducible] RE OE
/-- the end of numbers() -/
structure NumsE (w0 w w' : World) (p : Nat) (l : List W) (bad : Bool) (u : Value) : Prop where
  x : ∃ (ns : List Int) (r : List W), OE 3 w.heap.size w' u ns ∧ WsR 60 w0 w' p r (bad || !wnsOk l) ∧ ((bad || !wnsOk l) = false → ns = wnsB l ∧ r = []) ∧ ns.length ≤ 1000000
  q : ExtQ (fun k => k = p) w w'
/-- what numbers() has done: the numbers so far, what is left -/
structure NumsS (w0 : World) (B p : Nat) (l : List W) (bad : Bool) (wr : World) (ov : Value) : Prop where
  x : ∃ (ns : List Int) (r : List W) (b : Bool), WsR 60 w0 wr p r b ∧ OE 3 B wr ov ns ∧ (b || !wnsOk r) = (bad || !wnsOk l) ∧ (b = false → ns ++ wnsB r = wnsB l) ∧ ns.length + r.length = l.length ∧ ∀ x ∈ r, x.length ≤ 1000000
set_option maxRecDepth 100000 in
set_option maxHeartbeats 8000000 in
theorem wnumbers_any (w0 : World) (p : Nat) (l : List W) (bad : Bool) (w : World) (h : WsR 60 w0 w p l bad) (hp : p < w.heap.size) (hw : ∀ x ∈ l, x.length ≤ 1000000) (hl : l.length ≤ 1000000) :
    Calls Tryz.prog 47 #[.pointer (some ⟨p, 0, none⟩)] w fun e w' => ∃ u, e = .returned u ∧ NumsE w0 w w' p l bad u := by
  have HL := Lib.hid hl
  have HP := Lib.hid hp
  have HSL := Lib.hid (show w0.heap.size ≤ w.heap.size from h.x.size)
  have HS0 := Lib.hid (show NumsS w0 w.heap.size p l bad w (.slice none 0 0) from ⟨[], l, bad, h, OE.nilS _ _ _, rfl, fun _ => rfl, by simp, hw⟩)
  clear h hw hl hp
  go_enter Tryz.func47, Tryz.ntmps47
  go_wp2
  go_loopw [3] (fun ov wr => NumsS w0 w.heap.size p l bad wr ov ∧ ExtQ (fun k => k = p) w wr) (fun ov wr => match ov with | .slice _ n _ => l.length - n | _ => 0)
  case atStart => exact ⟨HS0.out, ExtQ.refl _ _⟩
  case round =>
    obtain ⟨⟨ns, r, b, hws, ho, hbad, heq, hlen, hrw⟩, hext⟩ := hrel
    rename World => wr
    have HWS := Lib.hid hws
    have HO := Lib.hid ho
    have HBAD := Lib.hid hbad
    have HEQ := Lib.hid heq
    have HLEN := Lib.hid hlen
    have HRW := Lib.hid hrw
    have HX := Lib.hid hext
    obtain ⟨AO, cO, rfl⟩ := ho.re.form
    obtain ⟨hlow, hx, A, c, hr, hb⟩ := hws
    have c0 : wr.cell? ⟨p, 0, none⟩ = some (.slice A r.length c) := (hb.cell 0).trans rfl
    have c1 : wr.cell? ⟨p, 1, none⟩ = some (.bool b) := (hb.cell 1).trans rfl
    clear ho hlow hx hr hb hbad heq hlen hrw hext
    cases r with
    | nil =>
      have HF := Lib.hid (show b = (bad || !wnsOk l) from by rw [← HBAD.out]; simp [wnsOk])
      have q0 : ¬ (0 : Int) < (([] : List W).length : Int) := by simp
      have q1 : ¬ 0 < ([] : List W).length := by simp
      go_wp2
      go_ret
      exact ⟨_, rfl, ⟨ns, [], HO.out, by rw [← HF.out]; exact HWS.out, fun hf => ⟨by have := HEQ.out (HF.out.trans hf); rw [← this]; simp [wnsB], rfl⟩, by have h1 := HLEN.out; have h2 := HL.out; simp at h1; omega⟩, HX.out⟩
    | cons x rest =>
      obtain ⟨n, hn⟩ : ∃ n, (x :: rest).length = n := ⟨_, rfl⟩
      rw [hn] at c0
      have q0 : (0 : Int) < (n : Int) := by rw [← hn]; simp; try omega
      have q1 : 0 < n := by rw [← hn]; simp
      clear hn
      cases b with
      | true =>
        have HF := Lib.hid (show true = (bad || !wnsOk l) from by rw [← HBAD.out]; rfl)
        go_wp2
        go_ret
        exact ⟨_, rfl, ⟨ns, x :: rest, HO.out, by rw [← HF.out]; exact HWS.out, fun hf => absurd (HF.out.trans hf) (by simp), by have h1 := HLEN.out; have h2 := HL.out; simp at h1; omega⟩, HX.out⟩
      | false =>
        have HC := Lib.hid (wnumber_any w0 p (x :: rest) false wr HWS.out HRW.out)
        go_wp2_with fail
        refine HC.out.mono ?_
        rintro e w1 ⟨rfl, hws1, hq1⟩
        have HWS1 := Lib.hid hws1
        have HQ1 := Lib.hid hq1
        have HO1 := Lib.hid (oe_extQ HO.out hq1 (fun k hk => by have h2 := HP.out; omega))
        clear hws1 hq1
        obtain ⟨nv, hnv⟩ : ∃ nv, (wnB ((x :: rest).headD [])).1 = nv := ⟨_, rfl⟩
        have HNV := Lib.hid hnv
        rw [hnv]
        clear hnv
        have HLI := Lib.hid (int_lit w1 nv)
        have hxl : Ext w1 (w1.alloc (.cells #[.int .i64 nv] 3)) := (Ext.refl _).alloc _
        have HO2 := Lib.hid (HO1.out.ext hxl)
        have HWS2 := Lib.hid (HWS1.out.e hxl)
        have HQ2 := Lib.hid ((HX.out.trans HQ1.out).trans (ExtQ.of hxl))
        clear hxl
        go_wp2_with (at_builtin; refine wpList_appE rfl elemI _ _ _ rfl w.heap.size _ _ ns [nv] rfl HO2.out rfl HLI.out (by have h1 := HLEN.out; have h2 := HL.out; rw [List.length_cons] at h1; simp only [List.length_singleton]; omega) (by have h1 := HLEN.out; have h2 := HL.out; rw [List.length_cons] at h1; simp only [List.length_singleton]; unfold maxLen; omega) HQ2.out.size ?_; intro v9 w9 ho9 hb9 hg9)
        obtain ⟨A9, c9, rfl⟩ := ho9.re.form
        exact ⟨⟨⟨ns ++ [nv], rest, false || !(wnB ((x :: rest).headD [])).2, HWS2.out.bel hb9 HP.out HSL.out, ho9, by
          rw [← HBAD.out, wnsOk_cons]
          show ((!(wnB x).2) || !wnsOk rest) = (false || !((wnB x).2 && wnsOk rest))
          cases (wnB x).2 <;> cases wnsOk rest <;> rfl, fun hf => by
          rw [← HEQ.out (by first | rfl | trivial), wnsB_cons, ← HNV.out]
          simp, by have := HLEN.out; simp at *; omega, fun y hy => HRW.out y (List.mem_cons_of_mem _ hy)⟩, exq_below HQ2.out hb9⟩, by have := HLEN.out; simp at *; omega⟩
theorem actS_nil {g : Sc.Act} (h : actOk g = false) : actS g = [] := by
  obtain ⟨⟨k, n, a, b, t⟩, ks⟩ := g
  unfold actS
  rw [if_neg (by rw [h]; decide)]
theorem actS_some {g : Sc.Act} (h : actOk g = true) : actS g ≠ [] := by
  obtain ⟨⟨k, n, a, b, t⟩, ks⟩ := g
  unfold actS
  rw [if_pos h]
  repeat' split
  all_goals simp
theorem actE {g : Sc.Act} : (actOk g = true ∧ ((⟨(actS g).toArray⟩ : ByteArray) == ⟨#[]⟩) = false ∧ ¬ (⟨(actS g).toArray⟩ : ByteArray) = ⟨#[]⟩ ∧ (actS g).isEmpty = false ∧ ¬ actS g = []) ∨ (actOk g = false ∧ actS g = []) := by
  cases h : actOk g with
  | true => exact .inl ⟨rfl, bs_f (y := []) (actS_some h), bs_n (y := []) (actS_some h), by cases h2 : actS g with | nil => exact absurd h2 (actS_some h) | cons _ _ => rfl, actS_some h⟩
  | false => exact .inr ⟨rfl, actS_nil h⟩
theorem actL_0 : La.actL [] = none := rfl
/-- the end of (*words).act -/
structure ActE (w w' : World) (p : Nat) (l : List W) (e : Ending) : Prop where
  x : ∃ (g : Sc.Act) (u : Value), (actL l).getD zAct = g ∧ e = .returned (.tuple #[actAg g.1.1 g.1.2.1 g.1.2.2.1 g.1.2.2.2.1 g.1.2.2.2.2 u, .bool (actL l).isSome]) ∧ OE 3 w.heap.size w' u g.2
  q : ExtQ (fun k => k = p) w w'
attribute [local irreducible] La.actL mkAct actOk actS
set_option pp.deepTerms true
set_option maxRecDepth 100000 in
set_option maxHeartbeats 8000000 in
theorem wact_any (w0 : World) (p : Nat) (l : List W) (w : World) (h : WsR 60 w0 w p l false) (hp : p < w.heap.size) (hw : ∀ x ∈ l, x.length ≤ 1000000) (hl : l.length ≤ 1000000) (ht : Tab w0) :
    Calls Tryz.prog 18 #[.pointer (some ⟨p, 0, none⟩)] w fun e w' => ActE w w' p l e := by
  have HX1 := Lib.hid ((Ext.refl w).alloc (actCs 0 0 0 0 0 (.slice none 0 0)))
  have HB1 := Lib.hid (Bx6.new w 24 (.int .i64 0) (.int .i64 0) (.int .i64 0) (.int .i64 0) (.int .i64 0) (.slice none 0 0))
  have HP := Lib.hid hp
  have HT := Lib.hid ht
  have HWS1 := Lib.hid (h.e HX1.out)
  obtain ⟨q, hq⟩ : ∃ q, q = w.heap.size := ⟨_, rfl⟩
  have HQ := Lib.hid hq
  have HP1 := Lib.hid (show p < (w.alloc (actCs 0 0 0 0 0 (.slice none 0 0))).heap.size from by have := HX1.out.size; omega)
  have HWT := Lib.hid (show ∀ x ∈ l.tail, x.length ≤ 1000000 from fun x hx => hw x (List.mem_of_mem_tail hx))
  have HLT := Lib.hid (show l.tail.length ≤ 1000000 from by rw [List.length_tail]; omega)
  have HACT0 := Lib.hid (show ((false || l.isEmpty) || !wnsOk l.tail) = true → La.actL l = none from fun h => by
    cases l with
    | nil => exact actL_0
    | cons x r =>
      refine actL_bad ?_
      simpa using h)
  have HACT1 := Lib.hid (show ((false || l.isEmpty) || !wnsOk l.tail) = false → (actOk (mkAct (l.headD []) (wnsB l.tail)) = true ∧ La.actL l = some (mkAct (l.headD []) (wnsB l.tail))) ∨ (actOk (mkAct (l.headD []) (wnsB l.tail)) = false ∧ La.actL l = none) from fun h => by
    cases l with
    | nil => simp at h
    | cons x r =>
      have h2 : wnsOk r = true := by simpa using h
      cases h3 : actOk (mkAct x (wnsB r)) with
      | true => exact .inl ⟨h3, actL_yes h2 h3⟩
      | false => exact .inr ⟨h3, actL_no h3⟩)
  have HNX := Lib.hid (fun w h => wnext_any w0 p l false w h)
  have HNN := Lib.hid (fun w => wnumbers_any w0 p l.tail (false || l.isEmpty) w)
  generalize l.headD [] = x at *
  generalize l.isEmpty = em at *
  generalize l.tail = tl at *
  obtain ⟨bad, hbad⟩ : ∃ bad, ((false || em) || !wnsOk tl) = bad := ⟨_, rfl⟩
  have HBAD := Lib.hid hbad
  rw [hbad] at HACT0 HACT1
  obtain ⟨AC, hAC⟩ : ∃ AC, La.actL l = AC := ⟨_, rfl⟩
  have HAC := Lib.hid hAC
  rw [hAC] at HACT0 HACT1
  clear h hp ht hw hl hbad hAC
  go_enter Tryz.func18, Tryz.ntmps18
  go_wp2_with fail
  rw [← hq] at HB1 ⊢
  clear hq
  generalize w.alloc (actCs 0 0 0 0 0 (.slice none 0 0)) = w1 at *
  refine (HNX.out w1 HWS1.out).mono ?_
  rintro e w2 ⟨rfl, hws2, hq2⟩
  have HWS2 := Lib.hid hws2
  have HX2 := Lib.hid ((ExtQ.of (Q := fun k => k = p) HX1.out).trans hq2)
  have HB2 := Lib.hid (HB1.out.extQ hq2 (by have := HP.out; have := HQ.out; omega))
  have HP2 := Lib.hid (show p < w2.heap.size from Nat.lt_of_lt_of_le HP1.out hq2.size)
  have HCN := Lib.hid (HNN.out w2 hws2 HP2.out HWT.out HLT.out)
  clear hws2 hq2
  go_wp2_with fail
  refine HCN.out.mono ?_
  rintro e w3 ⟨u, rfl, ⟨ns, r, hu, hws3, hns, hnl⟩, hq3⟩
  rw [HBAD.out] at hws3 hns
  have HWS3 := Lib.hid hws3
  have HX3 := Lib.hid (HX2.out.trans hq3)
  have HB3 := Lib.hid (HB2.out.extQ hq3 (by have := HP.out; have := HQ.out; omega))
  have HU3 := Lib.hid hu
  have HS2 := Lib.hid (show q < w2.heap.size ∧ w.heap.size ≤ w2.heap.size from ⟨HB2.out.b.lt, HX2.out.size⟩)
  have HNS := Lib.hid hns
  have HT3 := Lib.hid (show Tab w3 from HT.out.ext HWS3.out.x)
  have HP3 := Lib.hid (show p < w3.heap.size from Nat.lt_of_lt_of_le HP2.out hq3.size)
  have HCA := Lib.hid (lact_any x u ns w3 hu.re hnl)
  have HNL := Lib.hid hnl
  clear hws3 hq3 hu hns hnl HNX HNN HCN
  go_wp2_with fail
  refine HCA.out.mono ?_
  rintro e w4 ⟨g, ug, hg, rfl, hug, he4⟩
  obtain ⟨⟨k, n, a, b, t⟩, ks⟩ := g
  dsimp only
  have HG := Lib.hid hg
  have HKL := Lib.hid (show ks.length ≤ 1000000 from by
    rcases hug with ⟨rfl, h2⟩ | ⟨rfl, h2⟩
    · rw [show ks = [] from h2]; simp
    · rw [show ks = ns from h2]; exact HNL.out)
  have HUG := Lib.hid (show OE 3 w2.heap.size w4 ug ks from by
    rcases hug with ⟨rfl, h2⟩ | ⟨rfl, h2⟩
    · rw [show ks = [] from h2]; exact OE.nilS _ _ _
    · rw [show ks = ns from h2]; exact HU3.out.ext he4)
  have hx4 : Ext w4 (w4.alloc (actCs k n a b t ug)) := (Ext.refl _).alloc _
  have HX4 := Lib.hid (HX3.out.trans (ExtQ.of (he4.trans hx4)))
  have HB4 := Lib.hid ((HB3.out.ext he4).ext hx4)
  have HA4 := Lib.hid (Bx6.new w4 24 (.int .i64 k) (.int .i64 n) (.int .i64 a) (.int .i64 b) (.int .i64 t) ug)
  have HU4 := Lib.hid (HUG.out.ext hx4)
  have HT4 := Lib.hid ((HT3.out.ext he4).ext hx4)
  have HWS4 := Lib.hid ((HWS3.out.e he4).e hx4)
  obtain ⟨q4, hq4⟩ : ∃ q4, q4 = w4.heap.size := ⟨_, rfl⟩
  have HQ4 := Lib.hid hq4
  obtain ⟨Au, cu, rfl⟩ := HUG.out.re.form
  clear hg hug he4 hx4 HUG HCA HU3 HB3
  rw [← hq4] at HA4
  go_upto_region 3 with fail
  rw [← hq4]
  clear hq4
  generalize w4.alloc (actCs k n a b t (.slice Au ks.length cu)) = w5 at *
  obtain ⟨hlow, hx, A, c, hr, hb⟩ := HWS4.out
  have c1 : w5.cell? ⟨p, 1, none⟩ = some (.bool bad) := (hb.cell 1).trans rfl
  clear hlow hx hr hb
  obtain ⟨d0, d1, d2, d3, d4, d5⟩ := HA4.out.at_
  have HCS := Lib.hid (fun w h ht => sAct_any k n a b t (.slice Au ks.length cu) ks w h HKL.out ht)
  cases bad with
  | true =>
    have HBB := Lib.hid (HACT0.out rfl)
    have HB5 := HB4
    have f0 : w5.frozen? ⟨q, 0, none⟩ = false := HB5.out.b.frozen 0
    have f1 : w5.frozen? ⟨q, 1, none⟩ = false := HB5.out.b.frozen 1
    have f2 : w5.frozen? ⟨q, 2, none⟩ = false := HB5.out.b.frozen 2
    have f3 : w5.frozen? ⟨q, 3, none⟩ = false := HB5.out.b.frozen 3
    have f4 : w5.frozen? ⟨q, 4, none⟩ = false := HB5.out.b.frozen 4
    have f5 : w5.frozen? ⟨q, 5, none⟩ = false := HB5.out.b.frozen 5
    have HQZ := HX4
    obtain ⟨z0, z1, z2, z3, z4, z5⟩ := HB5.out.at_
    have HF := Lib.hid (HB5.out.fill (.int .i64 0) (.int .i64 0) (.int .i64 0) (.int .i64 0) (.int .i64 0) (.slice none 0 0))
    have HXF := Lib.hid (extQ6 (ExtQ.refl (fun k => k = q) w5) (q := q) rfl (.int .i64 0) (.int .i64 0) (.int .i64 0) (.int .i64 0) (.int .i64 0) (.slice none 0 0))
    go_wp2
    generalize ((((((((((((w5).setCell ⟨q, 0, none⟩ (.int .i64 0))).setCell ⟨q, 1, none⟩ (.int .i64 0))).setCell ⟨q, 2, none⟩ (.int .i64 0))).setCell ⟨q, 3, none⟩ (.int .i64 0))).setCell ⟨q, 4, none⟩ (.int .i64 0))).setCell ⟨q, 5, none⟩ (.slice none 0 0)) = wz at *
    obtain ⟨y0, y1, y2, y3, y4, y5⟩ := HF.out.at_
    exact bodyPost_ret (v := .tuple #[.agg #[.int .i64 0, .int .i64 0, .int .i64 0, .int .i64 0, .int .i64 0, .slice none 0 0], .bool false]) (by simp [results, Tryz.results18, go_sem, y0, y1, y2, y3, y4, y5]) rfl ⟨⟨zAct, _, by rw [HAC.out, HBB.out]; rfl, by rw [HAC.out, HBB.out]; rfl, OE.nilS _ _ _⟩, exq_new HQZ.out HXF.out (fun y h1 h2 => by have h3 : y = q := h2; have := HQ.out; omega)⟩
  | false =>
    have HGD := HACT1.out (by first | rfl | trivial)
    have HGE := Lib.hid HGD
    clear HGD
    go_wp2_with fail
    refine (HCS.out _ HU4.out.re HT4.out).mono ?_
    rintro e w6 ⟨rfl, he6⟩
    have HB5 := Lib.hid (HB4.out.ext he6)
    have HX6 := Lib.hid (HX4.out.trans (ExtQ.of he6))
    have HU6 := Lib.hid (HU4.out.ext he6)
    have hA5 := HA4.out.ext he6
    clear d0 d1 d2 d3 d4 d5
    obtain ⟨d0, d1, d2, d3, d4, d5⟩ := hA5.at_
    clear he6 hA5
    have HNE := HNS.out (by first | rfl | trivial)
    have hg2 : mkAct x (wnsB tl) = ((k, n, a, b, t), ks) := by rw [← HNE.1]; exact HG.out
    rcases actE (g := ((k, n, a, b, t), ks)) with ⟨ho, hs1, hs2, hs3, hs4⟩ | ⟨ho, hs⟩
    · have HAA := Lib.hid (show AC = some ((k, n, a, b, t), ks) from by
        rcases HGE.out with ⟨h1, h2⟩ | ⟨h1, h2⟩
        · rw [h2, hg2]
        · rw [hg2, ho] at h1; cases h1)
      clear ho hg2 HNE HGE
      generalize actS ((k, n, a, b, t), ks) = S at *
      have f0 : w6.frozen? ⟨q, 0, none⟩ = false := HB5.out.b.frozen 0
      have f1 : w6.frozen? ⟨q, 1, none⟩ = false := HB5.out.b.frozen 1
      have f2 : w6.frozen? ⟨q, 2, none⟩ = false := HB5.out.b.frozen 2
      have f3 : w6.frozen? ⟨q, 3, none⟩ = false := HB5.out.b.frozen 3
      have f4 : w6.frozen? ⟨q, 4, none⟩ = false := HB5.out.b.frozen 4
      have f5 : w6.frozen? ⟨q, 5, none⟩ = false := HB5.out.b.frozen 5
      obtain ⟨z0, z1, z2, z3, z4, z5⟩ := HB5.out.at_
      have HF := Lib.hid (HB5.out.fill (.int .i64 k) (.int .i64 n) (.int .i64 a) (.int .i64 b) (.int .i64 t) (.slice Au ks.length cu))
      have HXF := Lib.hid (extQ6 (ExtQ.refl (fun k => k = q) w6) (q := q) rfl (.int .i64 k) (.int .i64 n) (.int .i64 a) (.int .i64 b) (.int .i64 t) (.slice Au ks.length cu))
      go_wp2
      generalize ((((((((((((w6).setCell ⟨q, 0, none⟩ (.int .i64 k))).setCell ⟨q, 1, none⟩ (.int .i64 n))).setCell ⟨q, 2, none⟩ (.int .i64 a))).setCell ⟨q, 3, none⟩ (.int .i64 b))).setCell ⟨q, 4, none⟩ (.int .i64 t))).setCell ⟨q, 5, none⟩ (.slice Au ks.length cu)) = wz at *
      obtain ⟨y0, y1, y2, y3, y4, y5⟩ := HF.out.at_
      exact bodyPost_ret (v := .tuple #[.agg #[.int .i64 k, .int .i64 n, .int .i64 a, .int .i64 b, .int .i64 t, .slice Au ks.length cu], .bool true]) (by simp [results, Tryz.results18, go_sem, y0, y1, y2, y3, y4, y5]) rfl ⟨⟨((k, n, a, b, t), ks), _, by rw [HAC.out, HAA.out]; rfl, by rw [HAC.out, HAA.out]; rfl, OE.low (oe_extQ HU6.out HXF.out (fun y h1 h2 => by have h3 : y = q := h2; have := HS2.out; omega)) HS2.out.2⟩, exq_new HX6.out HXF.out (fun y h1 h2 => by have h3 : y = q := h2; have := HQ.out; omega)⟩
    · have HAA := Lib.hid (show AC = none from by
        rcases HGE.out with ⟨h1, h2⟩ | ⟨h1, h2⟩
        · rw [hg2, ho] at h1; cases h1
        · exact h2)
      rw [hs]
      clear ho hg2 HNE HGE hs
      have f0 : w6.frozen? ⟨q, 0, none⟩ = false := HB5.out.b.frozen 0
      have f1 : w6.frozen? ⟨q, 1, none⟩ = false := HB5.out.b.frozen 1
      have f2 : w6.frozen? ⟨q, 2, none⟩ = false := HB5.out.b.frozen 2
      have f3 : w6.frozen? ⟨q, 3, none⟩ = false := HB5.out.b.frozen 3
      have f4 : w6.frozen? ⟨q, 4, none⟩ = false := HB5.out.b.frozen 4
      have f5 : w6.frozen? ⟨q, 5, none⟩ = false := HB5.out.b.frozen 5
      obtain ⟨z0, z1, z2, z3, z4, z5⟩ := HB5.out.at_
      have HF := Lib.hid (HB5.out.fill (.int .i64 0) (.int .i64 0) (.int .i64 0) (.int .i64 0) (.int .i64 0) (.slice none 0 0))
      have HXF := Lib.hid (extQ6 (ExtQ.refl (fun k => k = q) w6) (q := q) rfl (.int .i64 0) (.int .i64 0) (.int .i64 0) (.int .i64 0) (.int .i64 0) (.slice none 0 0))
      go_wp2
      generalize ((((((((((((w6).setCell ⟨q, 0, none⟩ (.int .i64 0))).setCell ⟨q, 1, none⟩ (.int .i64 0))).setCell ⟨q, 2, none⟩ (.int .i64 0))).setCell ⟨q, 3, none⟩ (.int .i64 0))).setCell ⟨q, 4, none⟩ (.int .i64 0))).setCell ⟨q, 5, none⟩ (.slice none 0 0)) = wz at *
      obtain ⟨y0, y1, y2, y3, y4, y5⟩ := HF.out.at_
      exact bodyPost_ret (v := .tuple #[.agg #[.int .i64 0, .int .i64 0, .int .i64 0, .int .i64 0, .int .i64 0, .slice none 0 0], .bool false]) (by simp [results, Tryz.results18, go_sem, y0, y1, y2, y3, y4, y5]) rfl ⟨⟨zAct, _, by rw [HAC.out, HAA.out]; rfl, by rw [HAC.out, HAA.out]; rfl, OE.nilS _ _ _⟩, exq_new HX6.out HXF.out (fun y h1 h2 => by have h3 : y = q := h2; have := HQ.out; omega)⟩
end Go.Proofs.YtpmgmiiidfconaaGreatDoor
