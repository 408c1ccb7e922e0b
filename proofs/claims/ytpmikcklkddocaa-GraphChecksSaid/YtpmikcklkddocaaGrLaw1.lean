/-
  Layer 17: GraphChecks.
-/
import Derived.Test.YtpmikcklkddocaaGrLives
import Derived.Test.YtpmikcklkddocaaGrArgs
namespace Go.Proofs.Ytpmikcklkddocaa
open Go.RowKit Go.Ox Go.Ox.Gr
set_option linter.unusedVariables false
set_option linter.unusedSimpArgs false
attribute [local irreducible] RE OE NodesR RB OB
set_option maxRecDepth 100000 in
set_option maxHeartbeats 4000000 in
theorem graphChecks_row (d : Nat) (v : Value) (g : G) (w : World) (hv : NodesR d w v g.1) :
    Calls Try.prog 3 #[gAg v g.2] w fun e w' => e = .returned (.bool true) ∧ Ext w w' := by
  obtain ⟨l, out⟩ := g
  dsimp only at hv ⊢
  obtain ⟨A, c, rfl⟩ := hv.form
  have HL := Lib.hid lives_any
  have HX := Lib.hid ((Ext.refl w).alloc (gCs (.slice A l.length c) out))
  have HB := Lib.hid (Blk.new w 24 #[.slice A l.length c, .int .i64 out])
  have HV := Lib.hid (hv.ext HX.out)
  have HLG := Lib.hid (fun w h => large_any d (.slice A l.length c) l out w h)
  have HCK := Lib.hid (fun w h => gCheck_any d (.slice A l.length c) l out w h)
  have HLO := Lib.hid (fun w h => gLoop_any d (.slice A l.length c) l out w h)
  have HRC := Lib.hid (fun w h => rCheck_any d (.slice A l.length c) l out w h)
  have HPL := Lib.hid (fun w h => gPlaces_any d (.slice A l.length c) (l, out) w h)
  have HLI := Lib.hid (show loopI (l, out) = if gOk (l, out) = true then max (loopAt l) 0 else 0 from rfl)
  have HLB := Lib.hid (show loopB (l, out) = (gOk (l, out) && decide (0 ≤ loopAt l)) from rfl)
  have HGP := Lib.hid (show gPl (l, out) = if gOk (l, out) = true then places l else [] from rfl)
  have HGE := Lib.hid (show gE (l, out) = if gOk (l, out) = true then 0 else 170 from rfl)
  have HRG := Lib.hid (loopAt_range l)
  have HDP := Lib.hid (fun (h : largeB l = false) => (deep_ok (k := 3) h).1)
  have HRL := Lib.hid (fun (hl : l.length ≤ 1000000) w h => rLoop_any d (.slice A l.length c) l out w h hl)
  dsimp only at HPL
  clear hv
  go_enter Try.func3, Try.ntmps3
  go_upto_region 1 with fail
  generalize w.heap.size = p at *
  generalize w.alloc (gCs (.slice A l.length c) out) = w0 at *
  have y0 : w0.cell? ⟨p, 0, none⟩ = some (.slice A l.length c) := HB.out.cell 0
  have y1 : w0.cell? ⟨p, 1, none⟩ = some (.int .i64 out) := HB.out.cell 1
  have HC := Lib.hid (HLG.out _ HV.out)
  cases hlg : largeB l with
  | true =>
    rw [hlg] at HC
    clear hlg
    go_wp2_with fail
    refine HC.out.mono ?_
    rintro e w1 ⟨rfl, he⟩
    replace HX := Lib.hid (HX.out.trans he)
    clear he y0 y1 HC
    go_wp2_with fail
    refine (HL.out _).mono ?_
    rintro e w2 ⟨rfl, he⟩
    replace HX := Lib.hid (HX.out.trans he)
    clear he
    go_wp2
    go_ret
    exact ⟨rfl, HX.out⟩
  | false =>
    rw [hlg] at HC
    replace HDP := Lib.hid (HDP.out hlg)
    clear hlg
    go_wp2_with fail
    refine HC.out.mono ?_
    rintro e w1 ⟨rfl, he⟩
    replace HX := Lib.hid (HX.out.trans he)
    replace HV := Lib.hid (HV.out.ext he)
    replace HB := Lib.hid (HB.out.ext he)
    clear he y0 y1 HC
    have y0 : w1.cell? ⟨p, 0, none⟩ = some (.slice A l.length c) := HB.out.cell 0
    have y1 : w1.cell? ⟨p, 1, none⟩ = some (.int .i64 out) := HB.out.cell 1
    have HC := Lib.hid (HCK.out _ HV.out)
    cases hok : gOk (l, out) with
    | true =>
      rw [show gE (l, out) = 0 from by rw [HGE.out, if_pos hok]] at HC
      have HC1 := Lib.hid (fun w h => HLO.out w h)
      rw [show loopI (l, out) = max (loopAt l) 0 from by rw [HLI.out, if_pos hok], show loopB (l, out) = decide (0 ≤ loopAt l) from by rw [HLB.out, hok]; rfl] at HC1
      rw [hok] at HRC
      clear hok HLI HLB HGE HLO HLG HCK HPL HGP
      go_wp2_with fail
      refine HC.out.mono ?_
      rintro e w2 ⟨rfl, he⟩
      replace HX := Lib.hid (HX.out.trans he)
      replace HV := Lib.hid (HV.out.ext he)
      replace HB := Lib.hid (HB.out.ext he)
      clear he y0 y1 HC
      have y0 : w2.cell? ⟨p, 0, none⟩ = some (.slice A l.length c) := HB.out.cell 0
      have y1 : w2.cell? ⟨p, 1, none⟩ = some (.int .i64 out) := HB.out.cell 1
      have HC := Lib.hid (HC1.out _ HV.out)
      clear HC1
      go_wp2_with fail
      refine HC.out.mono ?_
      rintro e w3 ⟨rfl, he⟩
      replace HX := Lib.hid (HX.out.trans he)
      replace HV := Lib.hid (HV.out.ext he)
      replace HB := Lib.hid (HB.out.ext he)
      clear he y0 y1 HC
      go_wp2_with fail
      refine (HL.out _).mono ?_
      rintro e w4 ⟨rfl, he⟩
      replace HX := Lib.hid (HX.out.trans he)
      replace HV := Lib.hid (HV.out.ext he)
      replace HB := Lib.hid (HB.out.ext he)
      clear he
      have y0 : w4.cell? ⟨p, 0, none⟩ = some (.slice A l.length c) := HB.out.cell 0
      have y1 : w4.cell? ⟨p, 1, none⟩ = some (.int .i64 out) := HB.out.cell 1
      have HC := Lib.hid (HRC.out _ HV.out)
      go_wp2_with fail
      refine HC.out.mono ?_
      rintro e w5 ⟨rfl, he⟩
      replace HX := Lib.hid (HX.out.trans he)
      replace HV := Lib.hid (HV.out.ext he)
      replace HB := Lib.hid (HB.out.ext he)
      clear he y0 y1 HC
      have y0 : w5.cell? ⟨p, 0, none⟩ = some (.slice A l.length c) := HB.out.cell 0
      have y1 : w5.cell? ⟨p, 1, none⟩ = some (.int .i64 out) := HB.out.cell 1
      have HC := Lib.hid (HRL.out (by have := HDP.out; omega) _ HV.out)
      by_cases h0 : 0 ≤ loopAt l
      · have e1 : decide (0 ≤ loopAt l) = true := decide_eq_true h0
        have e2 : max (loopAt l) 0 = loopAt l := by omega
        rw [e1, e2]
        clear e1 e2 HRG
        generalize loopAt l = z at *
        go_wp2_with fail
        refine HC.out.mono ?_
        rintro e w6 ⟨rfl, he⟩
        replace HX := Lib.hid (HX.out.trans he)
        clear he y0 y1 HC
        go_wp2
        go_ret
        exact ⟨rfl, HX.out⟩
      · have e1 : decide (0 ≤ loopAt l) = false := decide_eq_false h0
        have e2 : max (loopAt l) 0 = 0 := by omega
        rw [e1, e2]
        clear e1 e2 HRG
        generalize loopAt l = z at *
        have HN0 := Lib.hid h0
        go_wp2_with fail
        refine HC.out.mono ?_
        rintro e w6 ⟨rfl, he⟩
        replace HX := Lib.hid (HX.out.trans he)
        clear he y0 y1 HC
        go_wp2
        go_ret
        exact ⟨by rw [show decide (0 ≤ z) = false from decide_eq_false (by have := HN0.out; omega)]; rfl, HX.out⟩
    | false =>
      rw [show gE (l, out) = 170 from by rw [HGE.out, if_neg (by rw [hok]; simp)]] at HC
      have HC1 := Lib.hid (fun w h => HLO.out w h)
      rw [show loopI (l, out) = 0 from by rw [HLI.out, if_neg (by rw [hok]; simp)], show loopB (l, out) = false from by rw [HLB.out, hok]; rfl] at HC1
      rw [show gPl (l, out) = [] from by rw [HGP.out, if_neg (by rw [hok]; simp)]] at HPL
      rw [hok] at HRC
      clear hok HLI HLB HGE HLO HLG HCK HGP
      go_wp2_with fail
      refine HC.out.mono ?_
      rintro e w2 ⟨rfl, he⟩
      replace HX := Lib.hid (HX.out.trans he)
      replace HV := Lib.hid (HV.out.ext he)
      replace HB := Lib.hid (HB.out.ext he)
      clear he y0 y1 HC
      have y0 : w2.cell? ⟨p, 0, none⟩ = some (.slice A l.length c) := HB.out.cell 0
      have y1 : w2.cell? ⟨p, 1, none⟩ = some (.int .i64 out) := HB.out.cell 1
      have HC := Lib.hid (HC1.out _ HV.out)
      clear HC1
      go_wp2_with fail
      refine HC.out.mono ?_
      rintro e w3 ⟨rfl, he⟩
      replace HX := Lib.hid (HX.out.trans he)
      replace HV := Lib.hid (HV.out.ext he)
      replace HB := Lib.hid (HB.out.ext he)
      clear he y0 y1 HC
      go_wp2_with fail
      refine (HL.out _).mono ?_
      rintro e w4 ⟨rfl, he⟩
      replace HX := Lib.hid (HX.out.trans he)
      replace HV := Lib.hid (HV.out.ext he)
      replace HB := Lib.hid (HB.out.ext he)
      clear he
      have y0 : w4.cell? ⟨p, 0, none⟩ = some (.slice A l.length c) := HB.out.cell 0
      have y1 : w4.cell? ⟨p, 1, none⟩ = some (.int .i64 out) := HB.out.cell 1
      have HC := Lib.hid (HRC.out _ HV.out)
      go_wp2_with fail
      refine HC.out.mono ?_
      rintro e w5 ⟨rfl, he⟩
      replace HX := Lib.hid (HX.out.trans he)
      replace HV := Lib.hid (HV.out.ext he)
      replace HB := Lib.hid (HB.out.ext he)
      clear he y0 y1 HC
      have y0 : w5.cell? ⟨p, 0, none⟩ = some (.slice A l.length c) := HB.out.cell 0
      have y1 : w5.cell? ⟨p, 1, none⟩ = some (.int .i64 out) := HB.out.cell 1
      have HC := Lib.hid (HPL.out _ HV.out)
      go_wp2_with fail
      refine HC.out.mono ?_
      rintro e w6 ⟨u, rfl, hu, he⟩
      obtain ⟨A6, c6, rfl⟩ : ∃ A c, u = .slice A 0 c := hu.form
      replace HX := Lib.hid (HX.out.trans he)
      clear he y0 y1 HC hu
      go_wp2
      go_ret
      exact ⟨rfl, HX.out⟩
/-- GraphChecks, as the row calls it -/
theorem graphChecks_law (w : World) (v : Value) (x : GArg) (hv : v = gAg x.1.1 x.2.2 ∧ NodesR x.1.2 w x.1.1 x.2.1) :
    Calls Try.prog 3 #[v] w fun e w' => e = .returned (.bool true) ∧ Ext w w' := by
  rw [hv.1]
  exact graphChecks_row x.1.2 x.1.1 x.2 w hv.2
end Go.Proofs.Ytpmikcklkddocaa
