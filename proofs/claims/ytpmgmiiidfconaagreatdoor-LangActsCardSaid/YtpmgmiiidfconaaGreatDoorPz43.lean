/-
  LaAct, LaLives, packed: what the claim needs of them.
-/
import Derived.Test.YtpmgmiiidfconaaGreatDoorPz22
import Derived.Test.YtpmgmiiidfconaaGreatDoorPz41
import Derived.Test.YtpmgmiiidfconaaGreatDoorPz42
set_option linter.unusedVariables false
set_option linter.unusedSimpArgs false
namespace Go.Ox.La
open Go Go.Lib Go.Ox Go.RowKit
theorem flush_mem {acc x : W} (h : x ∈ flush acc) : x = acc := by
  unfold flush at h
  split at h
  · simp at h
  · simpa using h
theorem splitF_word : ∀ (s : List UInt8) (acc : W) (x : W), x ∈ splitF s acc → x.length ≤ s.length + acc.length
  | [], acc, x, h => by rw [flush_mem (show x ∈ flush acc from h)]; omega
  | c :: s, acc, x, h => by
    unfold splitF at h
    split at h
    · rcases List.mem_append.1 h with h | h
      · rw [flush_mem h]; simp; try omega
      · have := splitF_word s [] x h; simp at *; omega
    · have := splitF_word s (acc ++ [c]) x h; simp at *; omega
theorem words_word (s : List UInt8) (x : W) (h : x ∈ wordsL s) : x.length ≤ s.length := by
  unfold wordsL at h
  rw [splitW_eq] at h
  have h1 := splitF_word _ _ _ h
  have h2 := head35_len s
  simp at h1
  omega
end Go.Ox.La
namespace Go.Proofs.YtpmgmiiidfconaaGreatDoor
open Go.RowKit Go.Ox Go.Ox.Gr Go.Ox.Sc Go.Ox.La Go.Shelf
attribute [local irreducible] RE OE La.actL mkAct actOk actS wordsL
set_option pp.deepTerms true
set_option maxRecDepth 100000 in
set_option maxHeartbeats 8000000 in
theorem lAct_any (l : W) (w : World) (hl : l.length ≤ 900000) (hm : MaxL w) (ht : Tab w) :
    Calls Tryz.prog 5 #[strV l] w fun e w' => ∃ (g : Sc.Act) (u : Value), (La.actL (wordsL l)).getD zAct = g ∧ e = .returned (.tuple #[actAg g.1.1 g.1.2.1 g.1.2.2.1 g.1.2.2.2.1 g.1.2.2.2.2 u, .bool (La.actL (wordsL l)).isSome]) ∧ OE 3 w.heap.size w' u g.2 ∧ Ext w w' := by
  have HX1 := Lib.hid ((Ext.refl w).alloc (actCs 0 0 0 0 0 (.slice none 0 0)))
  have HB1 := Lib.hid (Bx6.new w 24 (.int .i64 0) (.int .i64 0) (.int .i64 0) (.int .i64 0) (.int .i64 0) (.slice none 0 0))
  have HWW := Lib.hid (fun x h => Nat.le_trans (words_word l x h) (Nat.le_trans hl (by omega : 900000 ≤ 1000000)))
  have HWL := Lib.hid (Nat.le_trans (words_len l) (show l.length + 1 ≤ 1000000 by omega))
  obtain ⟨q, hq⟩ : ∃ q, q = w.heap.size := ⟨_, rfl⟩
  have HQ := Lib.hid hq
  have HCW := Lib.hid (words_any l (w.alloc (actCs 0 0 0 0 0 (.slice none 0 0))) (by omega) (hm.ext HX1.out))
  have HT := Lib.hid (ht.ext HX1.out)
  generalize wordsL l = ws at *
  clear hl hm ht
  go_enter Tryz.func5, Tryz.ntmps5
  go_wp2_with fail
  rw [← hq] at HB1 ⊢
  clear hq
  generalize w.alloc (actCs 0 0 0 0 0 (.slice none 0 0)) = w1 at *
  refine HCW.out.mono ?_
  rintro e w2 ⟨u, rfl, hu, he⟩
  obtain ⟨A, c, rfl⟩ := hu.re.form
  have HU := Lib.hid hu
  have hx2 : Ext w2 (w2.alloc (.cells #[.slice A ws.length c, .bool false] 60)) := (Ext.refl _).alloc _
  have HT2 := Lib.hid (HT.out.ext he)
  have HX2 := Lib.hid (HX1.out.trans (he.trans hx2))
  have HB2 := Lib.hid ((HB1.out.ext he).ext hx2)
  have HW2 := Lib.hid (show WsR 60 w2 (w2.alloc (.cells #[.slice A ws.length c, .bool false] 60)) w2.heap.size ws false from ⟨Nat.le_refl _, hx2, A, c, hu.re, Blk.new _ _ _⟩)
  have HP2 := Lib.hid (show w2.heap.size < (w2.alloc (.cells #[.slice A ws.length c, .bool false] 60)).heap.size from by simp)
  have HS2 := Lib.hid (show w.heap.size ≤ w2.heap.size from Nat.le_trans HX1.out.size he.size)
  have HQ2 := Lib.hid (show q < w2.heap.size from (HB1.out.ext he).b.lt)
  have HCA := Lib.hid (fun h1 h2 h3 h4 => wact_any w2 w2.heap.size ws (w2.alloc (.cells #[.slice A ws.length c, .bool false] 60)) HW2.out h1 h2 h3 h4)
  clear hu he hx2 HCW
  obtain ⟨p, hp⟩ : ∃ p, p = w2.heap.size := ⟨_, rfl⟩
  go_wp2_with fail
  rw [← hp] at HP2 HW2 HCA ⊢
  have HPP := Lib.hid hp
  clear hp
  generalize w2.alloc (.cells #[.slice A ws.length c, .bool false] 60) = w3 at *
  refine (HCA.out HP2.out HWW.out HWL.out HT2.out).mono ?_
  rintro e w4 ⟨⟨g, u, hg, rfl, hu⟩, hq4⟩
  obtain ⟨⟨k, n, a, b, t⟩, ks⟩ := g
  dsimp only
  dsimp only at hu
  obtain ⟨Au, cu, rfl⟩ := hu.re.form
  have HG := Lib.hid hg
  obtain ⟨sm, hsm⟩ : ∃ sm, (La.actL ws).isSome = sm := ⟨_, rfl⟩
  rw [hsm]
  have HSM := Lib.hid hsm
  clear hsm
  have HX4 := Lib.hid (exq_new (Q := fun _ => False) (ExtQ.of HX2.out) hq4 (fun y h1 h2 => by have h3 : y = p := h2; have := HPP.out; have := HS2.out; omega))
  have HB5 := Lib.hid (HB2.out.extQ hq4 (by have := HPP.out; have := HQ2.out; omega))
  have HU4 := Lib.hid hu
  have HP3 := Lib.hid (show q < w3.heap.size from HB2.out.b.lt)
  clear hg hq4 hu
  have f0 : w4.frozen? ⟨q, 0, none⟩ = false := HB5.out.b.frozen 0
  have f1 : w4.frozen? ⟨q, 1, none⟩ = false := HB5.out.b.frozen 1
  have f2 : w4.frozen? ⟨q, 2, none⟩ = false := HB5.out.b.frozen 2
  have f3 : w4.frozen? ⟨q, 3, none⟩ = false := HB5.out.b.frozen 3
  have f4 : w4.frozen? ⟨q, 4, none⟩ = false := HB5.out.b.frozen 4
  have f5 : w4.frozen? ⟨q, 5, none⟩ = false := HB5.out.b.frozen 5
  obtain ⟨z0, z1, z2, z3, z4, z5⟩ := HB5.out.at_
  have HF := Lib.hid (HB5.out.fill (.int .i64 k) (.int .i64 n) (.int .i64 a) (.int .i64 b) (.int .i64 t) (.slice Au ks.length cu))
  have HXF := Lib.hid (extQ6 (ExtQ.refl (fun k => k = q) w4) (q := q) rfl (.int .i64 k) (.int .i64 n) (.int .i64 a) (.int .i64 b) (.int .i64 t) (.slice Au ks.length cu))
  go_wp2
  generalize ((((((((((((w4).setCell ⟨q, 0, none⟩ (.int .i64 k))).setCell ⟨q, 1, none⟩ (.int .i64 n))).setCell ⟨q, 2, none⟩ (.int .i64 a))).setCell ⟨q, 3, none⟩ (.int .i64 b))).setCell ⟨q, 4, none⟩ (.int .i64 t))).setCell ⟨q, 5, none⟩ (.slice Au ks.length cu)) = wz at *
  obtain ⟨y0, y1, y2, y3, y4, y5⟩ := HF.out.at_
  exact bodyPost_ret (v := .tuple #[.agg #[.int .i64 k, .int .i64 n, .int .i64 a, .int .i64 b, .int .i64 t, .slice Au ks.length cu], .bool sm]) (by simp [results, Tryz.results5, go_sem, y0, y1, y2, y3, y4, y5]) rfl ⟨((k, n, a, b, t), ks), _, HG.out, by rw [HSM.out], OE.low (oe_extQ HU4.out HXF.out (fun y h1 h2 => by have h3 : y = q := h2; have := HP3.out; omega)) (by have := HX2.out.size; exact this), (exq_new HX4.out HXF.out (fun y h1 h2 => by have h3 : y = q := h2; have := HQ.out; omega)).ext (fun y h => False.elim h)⟩
end Go.Proofs.YtpmgmiiidfconaaGreatDoor
set_option linter.unusedVariables false
set_option linter.unusedSimpArgs false
namespace Go.Proofs.YtpmgmiiidfconaaGreatDoor
open Go.RowKit Go.Ox Go.Ox.Gr Go.Ox.Sc Go.Ox.La Go.Shelf
theorem live_t2 : strV (linesT badL2) = .string ⟨#[99, 111, 110, 102, 105, 103, 32, 49, 32, 50, 32, 51, 32, 52, 10, 110, 48, 32, 61, 32, 105, 110, 112, 117, 116, 32, 48, 10, 110, 49, 32, 61, 32, 109, 97, 112, 32, 97, 100, 100, 32, 110, 48, 10]⟩ := by rfl
theorem live_t3 : strV (linesT badL3) = .string ⟨#[99, 111, 110, 102, 105, 103, 32, 49, 32, 50, 32, 51, 32, 52, 10]⟩ := by rfl
def flipW : W := [102, 108, 105, 112, 32, 49, 32, 50, 32, 51, 32, 52]
theorem live_f : La.actL (wordsL flipW) = some ((4, 2, 1, 3, 4), []) := by rfl
def abW : W := [32, 97, 9, 32, 98, 35, 99]
theorem live_ab : wordsL abW = [[97], [98]] := by rfl
theorem live_10 : wnB [49, 48] = (10, true) := by rfl
theorem live_nd : joinL (nodeW (.mk ((6 : Nat) : Int) [0, 1] ((23 : Nat) : Int) ((0 : Nat) : Int) ((0 : Nat) : Int) []) 2 true) = [98, 50, 32, 61, 32, 112, 97, 105, 114, 32, 99, 114, 111, 115, 115, 32, 98, 48, 32, 98, 49] := by decide +kernel
theorem live_sm29 : Gr.Sm 4 reachL := Gr.Sm.of_deep (by decide +kernel)
theorem live_acts (w : World) : ActsR ((w.alloc (.cells #[.int .i64 3] 3)).alloc (.cells #[.int .i64 3, .int .i64 0, .int .i64 0, .int .i64 0, .int .i64 0, .slice (some ⟨w.heap.size, 0, none⟩) 1 1] 24)) (.slice (some ⟨w.heap.size + 1, 0, none⟩) 1 1) [chainG] := by
  have r0 : RE (w.alloc (.cells #[.int .i64 3] 3)) (.slice (some ⟨w.heap.size, 0, none⟩) 1 1) ([3] : List Int) := RE.lit w #[.int .i64 3] 3 1 ([3] : List Int) rfl (by omega) rfl
  have hs : w.heap.size + 1 = (w.alloc (.cells #[.int .i64 3] 3)).heap.size := by simp
  refine ⟨[[.int .i64 3, .int .i64 0, .int .i64 0, .int .i64 0, .int .i64 0, .slice (some ⟨w.heap.size, 0, none⟩) 1 1]], ?_, rfl, fun i r x hr hx => ?_⟩
  · rw [hs]
    exact Rd.lit (size := 6) _ #[.int .i64 3, .int .i64 0, .int .i64 0, .int .i64 0, .int .i64 0, .slice (some ⟨w.heap.size, 0, none⟩) 1 1] 24 1 rfl (by unfold maxLen; omega)
  · rcases i with _ | i
    · simp at hr hx
      subst hr; subst hx
      exact ⟨rfl, _, rfl, RE.ext r0 ((Ext.refl _).alloc _)⟩
    · simp at hr
attribute [local irreducible] RE OE OB RB NodesR EpR InsR ActsR RP wordsL linesT
set_option maxRecDepth 100000 in
set_option maxHeartbeats 16000000 in
theorem lives29_any (w : World) (ht : Ptb w) : Calls Tryz.prog 4 #[] w fun e w' => e = .returned (.bool true) ∧ Ext w w' := by
  have HT := Lib.hid ht
  clear ht
  have HA0 := Lib.hid (live_acts w)
  have HX0 := Lib.hid (((Ext.refl w).alloc (.cells #[.int .i64 3] 3)).alloc (.cells #[.int .i64 3, .int .i64 0, .int .i64 0, .int .i64 0, .int .i64 0, .slice (some ⟨w.heap.size, 0, none⟩) 1 1] 24))
  go_enter Tryz.func4, Tryz.ntmps4
  go_wp2_with fail
  refine (chain_any _ _ HA0.out).mono ?_
  rintro e w1 ⟨nv, iv, av, rfl, hsc, he1⟩
  obtain ⟨⟨AN, cN, rfl⟩, ⟨AI, cI, rfl⟩, AA, cA, rfl⟩ := hsc.form
  have HB2 := Lib.hid (Bx8.new w1 43 (.int .i64 chainS.cfg.1) (.int .i64 chainS.cfg.2.1) (.int .i64 chainS.cfg.2.2.1) (.int .i64 chainS.cfg.2.2.2) (.slice AN chainS.g.1.length cN) (.int .i64 chainS.g.2) (.slice AI chainS.ins.length cI) (.slice AA chainS.acts.length cA))
  have hal := (Ext.refl w1).alloc (scCs (.int .i64 chainS.cfg.1) (.int .i64 chainS.cfg.2.1) (.int .i64 chainS.cfg.2.2.1) (.int .i64 chainS.cfg.2.2.2) (.slice AN chainS.g.1.length cN) chainS.g.2 (.slice AI chainS.ins.length cI) (.slice AA chainS.acts.length cA))
  have HS2 := Lib.hid (show ScR 2 _ (.slice AN chainS.g.1.length cN) (.slice AI chainS.ins.length cI) (.slice AA chainS.acts.length cA) chainS from hsc.ext hal)
  have HX2 := Lib.hid ((HX0.out.trans he1).trans hal)
  obtain ⟨p, hp⟩ : ∃ p, p = w1.heap.size := ⟨_, rfl⟩
  clear hsc he1 hal
  go_upto_region 2 with fail
  rw [← hp] at HB2 ⊢
  clear hp
  generalize w1.alloc (scCs (.int .i64 chainS.cfg.1) (.int .i64 chainS.cfg.2.1) (.int .i64 chainS.cfg.2.2.1) (.int .i64 chainS.cfg.2.2.2) (.slice AN chainS.g.1.length cN) chainS.g.2 (.slice AI chainS.ins.length cI) (.slice AA chainS.acts.length cA)) = w2 at *
  have HT2 := Lib.hid (HT.out.ext HX2.out)
  obtain ⟨c0, c1, c2, c3, c4, c5, c6, c7⟩ := HB2.out.at_
  have HP := Lib.hid (lPrint_any 2 chainS _ _ _ w2 HS2.out chain_pr ⟨HT2.out.t, HT2.out.o, HT2.out.f⟩)
  rw [chain_lines] at HP
  generalize hcl : linesT chainL = TX at *
  have HCL := Lib.hid hcl
  clear hcl
  go_wp2_with fail
  refine HP.out.mono ?_
  rintro e w3 ⟨rfl, he3⟩
  have HB3 := Lib.hid (HB2.out.ext he3)
  have HS3 := Lib.hid (HS2.out.ext he3)
  have HX3 := Lib.hid (HX2.out.trans he3)
  clear he3 c0 c1 c2 c3 c4 c5 c6 c7
  have HP3 := Lib.hid (chain_parse w3 (HT.out.ext HX3.out))
  rw [HCL.out] at HP3
  go_wp2_with fail
  refine HP3.out.mono ?_
  rintro e w4 ⟨nv, iv, av, rfl, hsc, he4⟩
  obtain ⟨⟨BN, dN, rfl⟩, ⟨BI, dI, rfl⟩, BA, dA, rfl⟩ := hsc.form
  have HC5 := Lib.hid (Bx8.new w4 43 (.int .i64 chainS.cfg.1) (.int .i64 chainS.cfg.2.1) (.int .i64 chainS.cfg.2.2.1) (.int .i64 chainS.cfg.2.2.2) (.slice BN chainS.g.1.length dN) (.int .i64 chainS.g.2) (.slice BI chainS.ins.length dI) (.slice BA chainS.acts.length dA))
  have hal := (Ext.refl w4).alloc (scCs (.int .i64 chainS.cfg.1) (.int .i64 chainS.cfg.2.1) (.int .i64 chainS.cfg.2.2.1) (.int .i64 chainS.cfg.2.2.2) (.slice BN chainS.g.1.length dN) chainS.g.2 (.slice BI chainS.ins.length dI) (.slice BA chainS.acts.length dA))
  have HU5 := Lib.hid (show ScR 2 _ (.slice BN chainS.g.1.length dN) (.slice BI chainS.ins.length dI) (.slice BA chainS.acts.length dA) chainS from hsc.ext hal)
  have HB5 := Lib.hid (HB3.out.ext (he4.trans hal))
  have HS5 := Lib.hid (HS3.out.ext (he4.trans hal))
  have HX5 := Lib.hid (HX3.out.trans (he4.trans hal))
  obtain ⟨q, hq⟩ : ∃ q, q = w4.heap.size := ⟨_, rfl⟩
  clear hsc he4 hal
  go_upto_region 4 with fail
  rw [← hq] at HC5 ⊢
  clear hq
  generalize w4.alloc (scCs (.int .i64 chainS.cfg.1) (.int .i64 chainS.cfg.2.1) (.int .i64 chainS.cfg.2.2.1) (.int .i64 chainS.cfg.2.2.2) (.slice BN chainS.g.1.length dN) chainS.g.2 (.slice BI chainS.ins.length dI) (.slice BA chainS.acts.length dA)) = w5 at *
  have HP5 := Lib.hid (bad_parse2 w5 (HT.out.ext HX5.out))
  rw [live_t2] at HP5
  go_wp2_with fail
  refine HP5.out.mono ?_
  rintro e w6 ⟨rfl, he6⟩
  have hal := (Ext.refl w6).alloc (scCs (.int .i64 0) (.int .i64 0) (.int .i64 0) (.int .i64 0) (.slice none 0 0) 0 (.slice none 0 0) (.slice none 0 0))
  have HX7 := Lib.hid (he6.trans hal)
  clear he6 hal
  go_upto_region 5 with fail
  generalize w6.alloc (scCs (.int .i64 0) (.int .i64 0) (.int .i64 0) (.int .i64 0) (.slice none 0 0) 0 (.slice none 0 0) (.slice none 0 0)) = w7 at *
  have HP7 := Lib.hid (bad_parse3 w7 (HT.out.ext (HX5.out.trans HX7.out)))
  rw [live_t3] at HP7
  go_wp2_with fail
  refine HP7.out.mono ?_
  rintro e w8 ⟨rfl, he8⟩
  have hal := (Ext.refl w8).alloc (scCs (.int .i64 0) (.int .i64 0) (.int .i64 0) (.int .i64 0) (.slice none 0 0) 0 (.slice none 0 0) (.slice none 0 0))
  have HX9 := Lib.hid ((HX7.out.trans he8).trans hal)
  clear he8 hal
  go_upto_region 6 with fail
  generalize w8.alloc (scCs (.int .i64 0) (.int .i64 0) (.int .i64 0) (.int .i64 0) (.slice none 0 0) 0 (.slice none 0 0) (.slice none 0 0)) = w9 at *
  have HTW := Lib.hid (HT.out.ext (HX5.out.trans HX9.out))
  have HA9 := Lib.hid (lAct_any flipW w9 (by decide) HTW.out.m HTW.out.t)
  rw [live_f] at HA9
  go_wp2_with fail
  refine HA9.out.mono ?_
  rintro e w10 ⟨g, u, hg, rfl, hou, he10⟩
  obtain rfl : ((4, 2, 1, 3, 4), []) = g := hg
  obtain ⟨Au, cu, rfl⟩ := hou.re.form
  have HG11 := Lib.hid (Bx6.new w10 24 (.int .i64 4) (.int .i64 2) (.int .i64 1) (.int .i64 3) (.int .i64 4) (.slice Au 0 cu))
  have hal := (Ext.refl w10).alloc (actCs 4 2 1 3 4 (.slice Au 0 cu))
  have HX11 := Lib.hid ((HX9.out.trans he10).trans hal)
  obtain ⟨g1, hg1⟩ : ∃ g1, g1 = w10.heap.size := ⟨_, rfl⟩
  clear hou he10 hal
  go_upto_region 7 with fail
  rw [← hg1] at HG11 ⊢
  clear hg1
  generalize w10.alloc (actCs 4 2 1 3 4 (.slice Au 0 cu)) = w11 at *
  have HW11 := Lib.hid (words_any abW w11 (by decide) (HT.out.ext (HX5.out.trans HX11.out)).m)
  rw [live_ab] at HW11
  go_wp2_with fail
  refine HW11.out.mono ?_
  rintro e w12 ⟨u, rfl, hou, he12⟩
  obtain ⟨Aw, cw, rfl⟩ := hou.re.form
  have HX12 := Lib.hid (HX11.out.trans he12)
  have HG12 := Lib.hid (HG11.out.ext he12)
  clear hou he12
  have HN12 := Lib.hid (wnum_any [49, 48] w12 (by decide))
  rw [live_10] at HN12
  go_wp2_with fail
  refine HN12.out.mono ?_
  rintro e w13 ⟨rfl, rfl⟩
  have HSM := Lib.hid (rSame26_any 2 2 chainS chainS _ _ _ _ _ _ w12 (HS5.out.ext HX12.out) (HU5.out.ext HX12.out) chain_sm chain_sm live_sm29)
  obtain ⟨c0, c1, c2, c3, c4, c5, c6, c7⟩ := (HB5.out.ext HX12.out).at_
  obtain ⟨d0, d1, d2, d3, d4, d5, d6, d7⟩ := (HC5.out.ext HX12.out).at_
  go_wp2_with fail
  refine HSM.out.mono ?_
  rintro e w14 ⟨bb, rfl, hbb, he14⟩
  obtain rfl : bb = true := hbb.2 rfl
  have HX14 := Lib.hid (HX5.out.trans (HX12.out.trans he14))
  have g2 : w14.cell? ⟨g1, 1, none⟩ = some (.int .i64 2) := (HG12.out.ext he14).b.cell 1
  clear hbb he14 c0 c1 c2 c3 c4 c5 c6 c7 d0 d1 d2 d3 d4 d5 d6 d7
  have HI14 := Lib.hid (RE.lit w14 #[.int .i64 0, .int .i64 1] 3 2 ([0, 1] : List Int) rfl (by omega) rfl)
  have HX15 := Lib.hid ((Ext.refl w14).alloc (.cells #[.int .i64 0, .int .i64 1] 3))
  have HT15 := Lib.hid (HT.out.ext (HX14.out.trans HX15.out))
  have HND := Lib.hid (show Calls Tryz.prog 17 #[.agg #[.int .i64 6, .slice (some ⟨w14.heap.size, 0, none⟩) 2 2, .int .i64 23, .int .i64 0, .int .i64 0, .slice none 0 0], .int .i64 2, .bool true] (w14.alloc (.cells #[.int .i64 0, .int .i64 1] 3)) fun e w' => e = .returned (.string ⟨#[98, 50, 32, 61, 32, 112, 97, 105, 114, 32, 99, 114, 111, 115, 115, 32, 98, 48, 32, 98, 49]⟩) ∧ Ext (w14.alloc (.cells #[.int .i64 0, .int .i64 1] 3)) w' from by
    have h := lnode_any 6 23 0 0 2 true _ (.slice none 0 0) [0, 1] [] _ HI14.out ⟨_, _, rfl⟩ (by rfl) (by decide) (by decide) (by decide) (by decide) (by decide) (by decide) (by decide) (by rw [live_nd]; decide) HT15.out.t HT15.out.o HT15.out.f
    rw [live_nd] at h
    exact h)
  go_wp2_with fail
  refine HND.out.mono ?_
  rintro e w16 ⟨rfl, he16⟩
  have bq : ((⟨#[98, 50, 32, 61, 32, 112, 97, 105, 114, 32, 99, 114, 111, 115, 115, 32, 98, 48, 32, 98, 49]⟩ : ByteArray) == ⟨#[98, 50, 32, 61, 32, 112, 97, 105, 114, 32, 99, 114, 111, 115, 115, 32, 98, 48, 32, 98, 49]⟩) = true := by rfl
  have HXF := Lib.hid (HX14.out.trans (HX15.out.trans he16))
  clear he16
  go_wp2
  go_ret
  exact ⟨rfl, HXF.out⟩
end Go.Proofs.YtpmgmiiidfconaaGreatDoor
