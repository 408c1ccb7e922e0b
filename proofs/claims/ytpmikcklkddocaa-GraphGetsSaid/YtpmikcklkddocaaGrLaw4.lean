/-
  Layer 17: GraphGets.
-/
import Derived.Test.YtpmikcklkddocaaGrLives
import Derived.Test.YtpmikcklkddocaaGrArgs
namespace Go.Proofs.Ytpmikcklkddocaa
open Go.RowKit Go.Ox Go.Ox.Gr
set_option linter.unusedVariables false
set_option linter.unusedSimpArgs false
attribute [local irreducible] RE OE NodesR RB OB
theorem gres_same (b : List UInt8) : gres (getR b) = gres (getP b) ∧ (getR b).2 = (getP b).2 := by
  obtain ⟨h1, h2⟩ := get_same b
  refine ⟨?_, h1.symm⟩
  unfold gres
  rw [← h1]
  cases hp : (getP b).2 with
  | false => rfl
  | true => rw [if_pos rfl, if_pos rfl, h2 (by rw [← h1, hp])]
set_option maxRecDepth 100000 in
set_option maxHeartbeats 4000000 in
theorem graphGets_big (v : Value) (b : List UInt8) (w : World) (hv : RB w v b) (hl : 5000 < b.length) :
    Calls Try.prog 6 #[v] w fun e w' => e = .returned (.bool true) ∧ Ext w w' := by
  obtain ⟨A, c, rfl⟩ := RB.form hv
  have q1 : (b.length : Int) > 5000 := by omega
  have HL := Lib.hid lives_any
  clear hv hl
  generalize b.length = n at *
  go_enter Try.func6, Try.ntmps6
  go_wp2_with fail
  refine (HL.out _).mono ?_
  rintro e w2 ⟨rfl, he⟩
  go_wp2
  go_ret
  exact ⟨rfl, he⟩
set_option maxRecDepth 100000 in
set_option maxHeartbeats 8000000 in
theorem graphGets_row (v : Value) (b : List UInt8) (w : World) (hv : RB w v b) :
    Calls Try.prog 6 #[v] w fun e w' => e = .returned (.bool true) ∧ Ext w w' := by
  by_cases hl : 5000 < b.length
  · exact graphGets_big v b w hv hl
  obtain ⟨A, c, rfl⟩ := RB.form hv
  have q1 : ¬ (b.length : Int) > 5000 := by omega
  have HU := Lib.hid hv
  have HL := Lib.hid lives_any
  have HG := Lib.hid (fun w h => gGet_any (.slice A b.length c) b w h (by omega))
  have HR := Lib.hid (fun w h => rGet_any (.slice A b.length c) b w h (by omega))
  rw [(gres_same b).1, (gres_same b).2] at HR
  have HOK := Lib.hid (fun (h : (getP b).2 = true) => show gres (getP b) = (getP b).1 ∧ gerr (getP b) = 0 ∧ grL (getP b).1 = b ∧ gOk (getP b).1 = true from ⟨by unfold gres; rw [if_pos h], by unfold gerr; rw [if_pos h], (put_get h).1, (put_get h).2⟩)
  have HNO := Lib.hid (fun (h : (getP b).2 = false) => show gres (getP b) = ([], 0) ∧ gerr (getP b) = 170 from ⟨by unfold gres; rw [h]; rfl, by unfold gerr; rw [h]; rfl⟩)
  generalize gres (getP b) = G at *
  generalize gerr (getP b) = E at *
  generalize getP b = P at *
  obtain ⟨P1, ok⟩ := P
  dsimp only at HR HOK HNO
  have HSM := Lib.hid (show Sm 2 G.1 ∧ (ok = true → G = P1) from by
    cases ok with
    | true =>
      obtain ⟨h1, h2, h3, h4⟩ := HOK.out rfl
      rw [h1]
      exact ⟨gOk_sm (l := P1.1) (out := P1.2) h4, fun _ => rfl⟩
    | false => rw [(HNO.out rfl).1]; exact ⟨Sm.nil 2, fun q => by cases q⟩)
  obtain ⟨l, out⟩ := G
  dsimp only at HG HR HSM
  have HS := Lib.hid (fun u v w h1 h2 => rSameG_any 2 2 2 u v l l out out w (by omega) HSM.out.1 h1 h2)
  have HPUT := Lib.hid (fun (hk : gOk (l, out) = true) u w h => gPut_any 2 u l out w h hk (gOk_fit hk).1.put (gOk_fit hk).2)
  clear hv hl
  go_enter Try.func6, Try.ntmps6
  have HC := Lib.hid (HG.out _ HU.out)
  go_wp2_with fail
  clear q1
  refine HC.out.mono ?_
  rintro e w1 ⟨u1, rfl, hn1, he⟩
  obtain ⟨A1, c1, rfl⟩ := hn1.form
  have hal := (Ext.refl w1).alloc (gCs (.slice A1 l.length c1) out)
  have HB := Lib.hid (Blk.new w1 24 #[.slice A1 l.length c1, .int .i64 out])
  have HV := Lib.hid (hn1.ext hal)
  have HX := Lib.hid (he.trans hal)
  replace HU := Lib.hid ((HU.out.ext he).ext hal)
  clear HC hn1 he hal HG
  go_upto_region 4 with fail
  generalize w1.heap.size = p at *
  generalize w1.alloc (gCs (.slice A1 l.length c1) out) = w2 at *
  have HC := Lib.hid (HR.out _ HU.out)
  go_wp2_with fail
  refine HC.out.mono ?_
  rintro e w3 ⟨u3, rfl, hn3, he⟩
  obtain ⟨A3, c3, rfl⟩ := hn3.form
  have hal := (Ext.refl w3).alloc (gCs (.slice A3 l.length c3) out)
  have HB3 := Lib.hid (Blk.new w3 24 #[.slice A3 l.length c3, .int .i64 out])
  have HV3 := Lib.hid (hn3.ext hal)
  replace HX := Lib.hid ((HX.out.trans he).trans hal)
  replace HU := Lib.hid ((HU.out.ext he).ext hal)
  replace HV := Lib.hid ((HV.out.ext he).ext hal)
  replace HB := Lib.hid ((HB.out.ext he).ext hal)
  clear HC hn3 he hal HR
  go_upto_region 5 with fail
  generalize w3.heap.size = q at *
  generalize w3.alloc (gCs (.slice A3 l.length c3) out) = w4 at *
  go_wp2_with fail
  refine (HL.out _).mono ?_
  rintro e w5 ⟨rfl, he⟩
  replace HX := Lib.hid (HX.out.trans he)
  replace HU := Lib.hid (HU.out.ext he)
  replace HV := Lib.hid (HV.out.ext he)
  replace HV3 := Lib.hid (HV3.out.ext he)
  replace HB := Lib.hid (HB.out.ext he)
  replace HB3 := Lib.hid (HB3.out.ext he)
  clear he
  have y0 : w5.cell? ⟨p, 0, none⟩ = some (.slice A1 l.length c1) := HB.out.cell 0
  have y1 : w5.cell? ⟨p, 1, none⟩ = some (.int .i64 out) := HB.out.cell 1
  have z0 : w5.cell? ⟨q, 0, none⟩ = some (.slice A3 l.length c3) := HB3.out.cell 0
  have z1 : w5.cell? ⟨q, 1, none⟩ = some (.int .i64 out) := HB3.out.cell 1
  have HC := Lib.hid (HS.out _ _ _ HV.out HV3.out)
  go_wp2_with fail
  refine HC.out.mono ?_
  rintro e w6 ⟨bq, rfl, hbq, he⟩
  obtain rfl : bq = true := hbq.2 rfl
  replace HX := Lib.hid (HX.out.trans he)
  replace HU := Lib.hid (HU.out.ext he)
  replace HV := Lib.hid (HV.out.ext he)
  replace HB := Lib.hid (HB.out.ext he)
  clear he y0 y1 z0 z1 HC hbq HB3 HV3 HS
  cases ok with
  | false =>
    obtain rfl := (HNO.out rfl).2
    clear HNO HOK
    go_wp2
    go_ret
    exact ⟨rfl, HX.out⟩
  | true =>
    obtain ⟨h1, rfl, h3, h4⟩ := HOK.out rfl
    subst h1
    have H3 := Lib.hid h3
    replace HPUT := Lib.hid (HPUT.out h4)
    clear HNO HOK h3 h4
    have y0 : w6.cell? ⟨p, 0, none⟩ = some (.slice A1 l.length c1) := HB.out.cell 0
    have y1 : w6.cell? ⟨p, 1, none⟩ = some (.int .i64 out) := HB.out.cell 1
    have HC := Lib.hid (HPUT.out _ _ HV.out)
    rw [H3.out] at HC
    go_wp2_with fail
    refine HC.out.mono ?_
    rintro e w7 ⟨u7, rfl, hb7, he⟩
    obtain ⟨A7, c7, rfl⟩ := RB.form hb7
    replace HX := Lib.hid (HX.out.trans he)
    have hs1 := strB hb7
    have hs2 := strB (HU.out.ext he)
    clear he y0 y1 HC hb7
    go_wp2
    go_ret
    exact ⟨rfl, HX.out⟩
theorem graphGets_law (w : World) (v : Value) (b : List UInt8) (hv : RB w v b) :
    Calls Try.prog 6 #[v] w fun e w' => e = .returned (.bool true) ∧ Ext w w' := graphGets_row v b w hv
end Go.Proofs.Ytpmikcklkddocaa
