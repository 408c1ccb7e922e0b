/-
  Layer 17: what must come of every program.
-/
import Derived.Test.YtpmikcklkddocaaGrReach
import Derived.Test.YtpmikcklkddocaaGrAll
import Derived.Test.YtpmikcklkddocaaGrGetR
import Derived.Test.YtpmikcklkddocaaGrGetLaw
import Derived.Test.YtpmikcklkddocaaGrSame
import Derived.Test.YtpmikcklkddocaaGrPut
import Derived.Test.YtpmikcklkddocaaGrPutR
import Derived.Test.YtpmikcklkddocaaGrPlaces
import Derived.Test.YtpmikcklkddocaaGrLawMath
namespace Go.Ox.Gr
theorem reach_ok : gOk (reachL, 2) = true := by decide +kernel
theorem reach_get : getP (grL (reachL, 2)) = ((reachL, 2), true) := get_put (gOk_fit reach_ok).1 (gOk_fit reach_ok).2 reach_ok
theorem reach_cut : (getP ((grL (reachL, 2)).drop 1)).2 = false := by decide +kernel
theorem reach_len : 1 ≤ (grL (reachL, 2)).length ∧ (grL (reachL, 2)).length ≤ 1000 := by decide +kernel
theorem reach_pl : (gPl (reachL, 2)).length = 10 := by decide +kernel
theorem reach_us1 : usTop reachL 0 = [((2, 1), 0)] := by decide +kernel
theorem reach_us2 : namedL 0 (fun k => ((2 : Int), (k : Int))) reachB = [((2, 2), 0), ((2, 5), 0)] := by decide +kernel
theorem reach_nd : gNd (reachL, 2) (2, 3) = some (.mk 2 [2] 3 0 0 []) := by rfl
theorem reach_p1 : gUs (reachL, 2) (0, -1) = [((2, 1), 0)] := by
  have h : gUs (reachL, 2) (0, -1) = ru true 0 reachL := by unfold gUs; rw [if_pos (by rfl), if_pos (by decide)]
  rw [h, ru_top reach_ok, reach_us1]
theorem reach_p2 : gUs (reachL, 2) (2, 0) = [((2, 2), 0), ((2, 5), 0)] := by
  have h : gUs (reachL, 2) (2, 0) = ru false 0 reachL := by unfold gUs; rw [if_pos (by rfl), if_neg (by decide)]
  have h2 := ru_in (l := reachL) (i := 2) (j := 0) reach_ok (by decide) (by decide)
  rw [h]
  exact h2.trans reach_us2
end Go.Ox.Gr
namespace Go.Proofs.Ytpmikcklkddocaa
open Go.RowKit Go.Ox Go.Ox.Gr
set_option linter.unusedVariables false
set_option linter.unusedSimpArgs false
attribute [local irreducible] RE OE NodesR RB OB
theorem reach_loop : loopI (reachL, 2) = 2 ∧ loopB (reachL, 2) = true := by decide +kernel
set_option maxRecDepth 100000 in
set_option maxHeartbeats 16000000 in
theorem lives_any (w : World) :
    Calls Try.prog 10 #[] w fun e w' => e = .returned (.bool true) ∧ Ext w w' := by
  have HSM := Lib.hid (gOk_sm reach_ok)
  have HPUT := Lib.hid (fun u w (h : NodesR 2 w u reachL) => gPut_any 2 u reachL 2 w h reach_ok (gOk_fit reach_ok).1.put (gOk_fit reach_ok).2)
  have HLOOP := Lib.hid (fun u w (h : NodesR 2 w u reachL) => gLoop_any 2 u reachL 2 w h)
  rw [reach_loop.1, reach_loop.2] at HLOOP
  have HNODE := Lib.hid (fun u w (h : NodesR 2 w u reachL) => gNode_any 2 u (reachL, 2) (2, 3) w h)
  rw [reach_nd] at HNODE
  have HUS1 := Lib.hid (fun u w (h : NodesR 2 w u reachL) => gUsers_any 2 u (reachL, 2) (0, -1) w h)
  rw [reach_p1] at HUS1
  have HUS2 := Lib.hid (fun u w (h : NodesR 2 w u reachL) => gUsers_any 2 u (reachL, 2) (2, 0) w h)
  rw [reach_p2] at HUS2
  have HPL := Lib.hid (fun u w (h : NodesR 2 w u reachL) => gPlaces_any 2 u (reachL, 2) w h)
  have HPLL := Lib.hid reach_pl
  have HCK := Lib.hid (fun u w (h : NodesR 2 w u reachL) => gCheck_any 2 u reachL 2 w h)
  rw [show gE (reachL, 2) = 0 from by unfold gE; rw [if_pos reach_ok]] at HCK
  have HCK0 := Lib.hid (fun w => gCheck_any 0 (.slice none 0 0) [] 0 w (NodesR.nil _ _))
  rw [show gE ([], 0) = 170 from rfl] at HCK0
  have HG1 := Lib.hid (fun v w (h : RB w v (grL (reachL, 2))) => gGet_any v _ w h (by have := reach_len.2; omega))
  rw [reach_get] at HG1
  rw [show gres ((reachL, 2), true) = (reachL, 2) from rfl, show gerr ((reachL, 2), true) = 0 from rfl] at HG1
  have HG2 := Lib.hid (fun v w (h : RB w v ((grL (reachL, 2)).drop 1)) => gGet_any v _ w h (by have := reach_len.2; rw [List.length_drop]; omega))
  rw [show gres (getP ((grL (reachL, 2)).drop 1)) = ([], 0) from by unfold gres; rw [reach_cut]; rfl, show gerr (getP ((grL (reachL, 2)).drop 1)) = 170 from by unfold gerr; rw [reach_cut]; rfl] at HG2
  have HSAME := Lib.hid (fun u v w (h1 : NodesR 2 w u reachL) (h2 : NodesR 2 w v reachL) => gSame_any 2 2 2 u v reachL reachL 2 2 w (gOk_sm reach_ok) h1 h2)
  have HBL := Lib.hid reach_len
  generalize grL (reachL, 2) = bl at *
  generalize gPl (reachL, 2) = pl at *
  have HRE := Lib.hid reach_any
  have HAR := Lib.hid (fun w => gArity_any 6 w)
  rw [show arity 6 = 2 from rfl] at HAR
  have HK5 := Lib.hid (fun w => keyed_any 5 w)
  rw [show keyedB 5 = true from rfl] at HK5
  have HK2 := Lib.hid (fun w => keyed_any 2 w)
  rw [show keyedB 2 = false from rfl] at HK2
  generalize reachL = L at *
  dsimp only at HPUT HNODE HUS1 HUS2 HPL HG1 HG2
  go_enter Try.func10, Try.ntmps10
  go_wp2_with fail
  refine (HRE.out _).mono ?_
  rintro e w1 ⟨u, rfl, hn, he1⟩
  obtain ⟨A, c, rfl⟩ := hn.form
  have hal := (Ext.refl w1).alloc (gCs (.slice A L.length c) 2)
  have HV := Lib.hid (hn.ext hal)
  have HB := Lib.hid (Blk.new w1 24 #[.slice A L.length c, .int .i64 2])
  have HX := Lib.hid (he1.trans hal)
  clear hn he1 hal
  go_upto_region 2 with fail
  generalize w1.heap.size = p at *
  generalize w1.alloc (gCs (.slice A L.length c) 2) = w2 at *
  have y0 : w2.cell? ⟨p, 0, none⟩ = some (.slice A L.length c) := HB.out.cell 0
  have y1 : w2.cell? ⟨p, 1, none⟩ = some (.int .i64 2) := HB.out.cell 1
  have HC := Lib.hid (HPUT.out _ _ HV.out)
  go_wp2_with fail
  refine HC.out.mono ?_
  rintro e w3 ⟨ub, rfl, hub, he⟩
  obtain ⟨Ab, cb, rfl⟩ := RB.form hub
  have HU := Lib.hid hub
  replace HV := Lib.hid (HV.out.ext he)
  replace HB := Lib.hid (HB.out.ext he)
  replace HX := Lib.hid (HX.out.trans he)
  clear he hub y0 y1 HC
  have hn0 : ¬ (bl.length : Int) = 0 := by have := HBL.out; omega
  have HC := Lib.hid (HG1.out _ _ HU.out)
  go_wp2_with fail
  refine HC.out.mono ?_
  rintro e w4 ⟨uh, rfl, huh, he⟩
  clear hn0
  obtain ⟨Ah, ch, rfl⟩ := huh.form
  have hal := (Ext.refl w4).alloc (gCs (.slice Ah L.length ch) 2)
  have HH := Lib.hid (huh.ext hal)
  have HK := Lib.hid (Blk.new w4 24 #[.slice Ah L.length ch, .int .i64 2])
  replace HU := Lib.hid ((HU.out.ext he).ext hal)
  replace HV := Lib.hid ((HV.out.ext he).ext hal)
  replace HB := Lib.hid ((HB.out.ext he).ext hal)
  replace HX := Lib.hid ((HX.out.trans he).trans hal)
  clear he huh hal HC
  go_upto_region 6 with fail
  generalize w4.heap.size = q at *
  generalize w4.alloc (gCs (.slice Ah L.length ch) 2) = w5 at *
  have y0 : w5.cell? ⟨p, 0, none⟩ = some (.slice A L.length c) := HB.out.cell 0
  have y1 : w5.cell? ⟨p, 1, none⟩ = some (.int .i64 2) := HB.out.cell 1
  have HC := Lib.hid (HLOOP.out _ _ HV.out)
  go_wp2_with fail
  refine HC.out.mono ?_
  rintro e w6 ⟨rfl, he⟩
  replace HU := Lib.hid (HU.out.ext he)
  replace HV := Lib.hid (HV.out.ext he)
  replace HB := Lib.hid (HB.out.ext he)
  replace HH := Lib.hid (HH.out.ext he)
  replace HK := Lib.hid (HK.out.ext he)
  replace HX := Lib.hid (HX.out.trans he)
  clear he y0 y1 HC
  have y0 : w6.cell? ⟨p, 0, none⟩ = some (.slice A L.length c) := HB.out.cell 0
  have y1 : w6.cell? ⟨p, 1, none⟩ = some (.int .i64 2) := HB.out.cell 1
  have HC := Lib.hid (HNODE.out _ _ HV.out)
  go_wp2_with fail
  refine HC.out.mono ?_
  rintro e w7 ⟨ui, ubd, rfl, hui, hbd, he⟩
  simp only [Option.getD_some, Nd.op, Nd.kind, Nd.fa, Nd.a, Nd.ins, Nd.body, Option.isSome_some] at hui hbd ⊢
  obtain ⟨Ai, ci, rfl⟩ : ∃ A c, ui = .slice A 1 c := hui.form
  obtain ⟨Aj, cj, rfl⟩ : ∃ A c, ubd = .slice A 0 c := hbd.form
  have hal := (Ext.refl w7).alloc (ndCs 2 3 0 0 (.slice Ai 1 ci) (.slice Aj 0 cj))
  have HN := Lib.hid (Bx6.new w7 40 (.int .i64 2) (.slice Ai 1 ci) (.int .i64 3) (.int .i64 0) (.int .i64 0) (.slice Aj 0 cj))
  replace HU := Lib.hid ((HU.out.ext he).ext hal)
  replace HV := Lib.hid ((HV.out.ext he).ext hal)
  replace HB := Lib.hid ((HB.out.ext he).ext hal)
  replace HH := Lib.hid ((HH.out.ext he).ext hal)
  replace HK := Lib.hid ((HK.out.ext he).ext hal)
  replace HX := Lib.hid ((HX.out.trans he).trans hal)
  clear he y0 y1 HC hal hui hbd
  go_upto_region 8 with fail
  generalize w7.heap.size = r at *
  generalize w7.alloc (ndCs 2 3 0 0 (.slice Ai 1 ci) (.slice Aj 0 cj)) = w8 at *
  have y0 : w8.cell? ⟨p, 0, none⟩ = some (.slice A L.length c) := HB.out.cell 0
  have y1 : w8.cell? ⟨p, 1, none⟩ = some (.int .i64 2) := HB.out.cell 1
  have HC := Lib.hid (HUS1.out _ _ HV.out)
  go_wp2_with fail
  refine HC.out.mono ?_
  rintro e w9 ⟨us, rfl, hus, he⟩
  obtain ⟨As, cs, rfl⟩ : ∃ A c, us = .slice A 1 c := hus.form
  have HS := Lib.hid hus
  replace HU := Lib.hid (HU.out.ext he)
  replace HV := Lib.hid (HV.out.ext he)
  replace HB := Lib.hid (HB.out.ext he)
  replace HH := Lib.hid (HH.out.ext he)
  replace HK := Lib.hid (HK.out.ext he)
  replace HN := Lib.hid (HN.out.ext he)
  replace HX := Lib.hid (HX.out.trans he)
  clear he y0 y1 HC hus
  go_upto_region 9 with fail
  have y0 : w9.cell? ⟨p, 0, none⟩ = some (.slice A L.length c) := HB.out.cell 0
  have y1 : w9.cell? ⟨p, 1, none⟩ = some (.int .i64 2) := HB.out.cell 1
  have HC := Lib.hid (HUS2.out _ _ HV.out)
  go_wp2_with fail
  refine HC.out.mono ?_
  rintro e w10 ⟨ut, rfl, hut, he⟩
  obtain ⟨At, ct, rfl⟩ : ∃ A c, ut = .slice A 2 c := hut.form
  have HT := Lib.hid hut
  replace HS := Lib.hid (HS.out.ext he)
  replace HU := Lib.hid (HU.out.ext he)
  replace HV := Lib.hid (HV.out.ext he)
  replace HB := Lib.hid (HB.out.ext he)
  replace HH := Lib.hid (HH.out.ext he)
  replace HK := Lib.hid (HK.out.ext he)
  replace HN := Lib.hid (HN.out.ext he)
  replace HX := Lib.hid (HX.out.trans he)
  clear he y0 y1 HC hut
  obtain ⟨Ac, hcut, hrb⟩ := RB.lo elemB HU.out (k := 1) (by have := HBL.out; omega) 1 rfl
  have HC := Lib.hid (HG2.out _ _ hrb)
  clear hrb
  go_wp2_with fail
  refine HC.out.mono ?_
  rintro e w11 ⟨uz, rfl, huz, he⟩
  clear hcut
  obtain ⟨Az, cz, rfl⟩ : ∃ A c, uz = .slice A 0 c := huz.form
  have hal := (Ext.refl w11).alloc (gCs (.slice Az 0 cz) 0)
  replace HT := Lib.hid ((HT.out.ext he).ext hal)
  replace HS := Lib.hid ((HS.out.ext he).ext hal)
  replace HV := Lib.hid ((HV.out.ext he).ext hal)
  replace HB := Lib.hid ((HB.out.ext he).ext hal)
  replace HH := Lib.hid ((HH.out.ext he).ext hal)
  replace HK := Lib.hid ((HK.out.ext he).ext hal)
  replace HN := Lib.hid ((HN.out.ext he).ext hal)
  replace HX := Lib.hid ((HX.out.trans he).trans hal)
  clear he HC hal huz
  obtain ⟨w12, hw12⟩ : ∃ w12, w12 = w11.alloc (gCs (.slice Az 0 cz) 0) := ⟨_, rfl⟩
  rw [← hw12] at HT HS HV HB HH HK HN HX
  have y0 : w12.cell? ⟨p, 0, none⟩ = some (.slice A L.length c) := HB.out.cell 0
  have y1 : w12.cell? ⟨p, 1, none⟩ = some (.int .i64 2) := HB.out.cell 1
  have z0 : w12.cell? ⟨q, 0, none⟩ = some (.slice Ah L.length ch) := HK.out.cell 0
  have z1 : w12.cell? ⟨q, 1, none⟩ = some (.int .i64 2) := HK.out.cell 1
  have HC := Lib.hid (HSAME.out _ _ _ HV.out HH.out)
  rw [hw12] at y0 y1 z0 z1 HC
  go_wp2_with fail
  clear y0 y1 z0 z1
  rw [← hw12] at HC
  try rw [← hw12]
  refine HC.out.mono ?_
  rintro e w13 ⟨bq, rfl, hbq, he⟩
  obtain rfl : bq = true := hbq.2 rfl
  clear hw12 hbq
  replace HT := Lib.hid (HT.out.ext he)
  replace HS := Lib.hid (HS.out.ext he)
  replace HV := Lib.hid (HV.out.ext he)
  replace HB := Lib.hid (HB.out.ext he)
  replace HN := Lib.hid (HN.out.ext he)
  replace HX := Lib.hid (HX.out.trans he)
  clear he HC HH HK
  obtain ⟨bS, oS, rfl, x0, x1, x2⟩ := rp3 HS.out (k := 0) (by decide)
  obtain ⟨bT, oT, rfl, u0, u1, u2⟩ := rp3 HT.out (k := 1) (by decide)
  obtain ⟨n0, n1, n2, n3, n4, n5⟩ := HN.out.at_
  have x0 : w13.cell? ⟨bS, oS, none⟩ = some (.int .i64 2) := by simpa using x0
  have x1 : w13.cell? ⟨bS, oS + 1, none⟩ = some (.int .i64 1) := by simpa using x1
  have x2 : w13.cell? ⟨bS, oS + 2, none⟩ = some (.int .i64 0) := by simpa using x2
  have u0 : w13.cell? ⟨bT, oT + 3, none⟩ = some (.int .i64 2) := by simpa using u0
  have u1 : w13.cell? ⟨bT, oT + 3 + 1, none⟩ = some (.int .i64 5) := by simpa using u1
  have u2 : w13.cell? ⟨bT, oT + 3 + 2, none⟩ = some (.int .i64 0) := by simpa using u2
  have y0 : w13.cell? ⟨p, 0, none⟩ = some (.slice A L.length c) := HB.out.cell 0
  have y1 : w13.cell? ⟨p, 1, none⟩ = some (.int .i64 2) := HB.out.cell 1
  have HC := Lib.hid (HPL.out _ _ HV.out)
  go_wp2_with fail
  refine HC.out.mono ?_
  rintro e w14 ⟨ul, rfl, hul, he⟩
  obtain ⟨Al, cl, rfl⟩ := hul.form
  have hl10 : (pl.length : Int) = 10 := by have := HPLL.out; omega
  replace HV := Lib.hid (HV.out.ext he)
  replace HB := Lib.hid (HB.out.ext he)
  replace HX := Lib.hid (HX.out.trans he)
  clear he HC HS HT HN x0 x1 x2 u0 u1 u2 n0 n1 n2 n3 n4 n5 y0 y1 hul
  have y0 : w14.cell? ⟨p, 0, none⟩ = some (.slice A L.length c) := HB.out.cell 0
  have y1 : w14.cell? ⟨p, 1, none⟩ = some (.int .i64 2) := HB.out.cell 1
  have HC := Lib.hid (HCK.out _ _ HV.out)
  go_wp2_with fail
  refine HC.out.mono ?_
  rintro e w15 ⟨rfl, he⟩
  replace HX := Lib.hid (HX.out.trans he)
  clear he HC y0 y1 HV HB
  go_wp2_with fail
  refine (HCK0.out _).mono ?_
  rintro e w16 ⟨rfl, he⟩
  replace HX := Lib.hid (HX.out.trans he)
  clear he
  go_wp2_with fail
  refine (HAR.out _).mono ?_
  rintro e w17 ⟨rfl, he⟩
  replace HX := Lib.hid (HX.out.trans he)
  clear he
  go_wp2_with fail
  refine (HK5.out _).mono ?_
  rintro e w18 ⟨rfl, rfl⟩
  go_wp2_with fail
  refine (HK2.out _).mono ?_
  rintro e w19 ⟨rfl, rfl⟩
  go_wp2
  go_ret
  exact ⟨rfl, HX.out⟩
end Go.Proofs.Ytpmikcklkddocaa
