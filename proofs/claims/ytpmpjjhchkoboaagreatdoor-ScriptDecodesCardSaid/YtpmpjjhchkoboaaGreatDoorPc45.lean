/-
  ScrLawE, packed: what the claim needs of them.
-/
import Derived.Test.YtpmpjjhchkoboaaGreatDoorPc42
import Derived.Test.YtpmpjjhchkoboaaGreatDoorPc44
open Go.Lib (hid)
set_option linter.unusedSimpArgs false
set_option linter.unusedVariables false
set_option maxRecDepth 100000
namespace Go.Ox.Sc
theorem scSm_of {s : Sc} (h : scOk s = true) : ScSm s := by
 obtain ⟨-, -, h3, h4, h5, h6⟩ := scOk_parts h
 refine ⟨by omega, fun l hl => ?_, by omega, fun a ha => ?_⟩
 · have h7 := h4 l hl
   unfold epOk at h7
   simp only [Bool.and_eq_true, decide_eq_true_eq, List.all_eq_true] at h7
   exact ⟨by omega, fun b hb => by have := (Rec.may_ok (h7.2 b hb)).2; omega⟩
 · have h7 := h6 a ha
   obtain ⟨⟨k, n, x, y, t⟩, ks⟩ := a
   unfold actOk at h7
   simp only [Bool.and_eq_true, decide_eq_true_eq, List.all_eq_true] at h7
   have := h7.1.2
   dsimp only at this ⊢
   omega
theorem scZ_sm : ScSm scZ := ⟨by simp [scZ], fun l hl => by simp [scZ] at hl, by simp [scZ], fun a ha => by simp [scZ] at ha⟩
theorem dec_facts (b : List UInt8) : ScSm (sres (decP b)) ∧ Gr.Sm 4 (sres (decP b)).g.1 ∧ ((decP b).2 = true → scOk (sres (decP b)) = true ∧ scL (sres (decP b)) = b) ∧ serr (decP b) = if (decP b).2 = true then 0 else 260 := by
 have hc := @dec_canon b
 unfold sres serr
 generalize decP b = r at *
 obtain ⟨s, ok⟩ := r
 dsimp only at *
 cases ok with
 | true =>
  obtain ⟨h1, h2⟩ := hc rfl
  have h3 := (scOk_parts h2.1).2.1
  rw [if_pos rfl]
  exact ⟨scSm_of h2.1, (Gr.gOk_sm (l := s.g.1) (out := s.g.2) h3).up.up, fun _ => ⟨h2.1, h1⟩, rfl⟩
 | false => exact ⟨by simpa using scZ_sm, by simpa [scZ] using Gr.Sm.nil 4, (fun h => by cases h), rfl⟩
end Go.Ox.Sc
namespace Go.Proofs.YtpmpjjhchkoboaaGreatDoor
open Go.RowKit Go.Ox Go.Ox.Gr Go.Ox.Sc
attribute [local irreducible] RE OE RB OB NodesR EpR InsR ActsR RP
set_option maxHeartbeats 8000000 in
theorem scriptDecodes_law (w : World) (ht : Tab w) (v : Value) (b : List UInt8) (hv : RB w v b) :
 Calls Tryz.prog 4 #[v] w fun e w' => e = .returned (.bool true) ∧ Ext w w' := by
 have HLV := hid (fun W' (he : Ext w W') => lives26_any W' (ht.ext he))
 have HV := hid hv
 obtain ⟨A, c, rfl⟩ := RB.form hv
 clear ht hv
 by_cases h5 : 5000 < b.length
 · have g1 : (b.length : Int) > 5000 := by omega
   generalize (b.length) = bn at *
   clear h5
   go_enter Tryz.func4, Tryz.ntmps4
   go_wp2_with fail
   refine (HLV.out _ (Ext.refl _)).mono ?_
   rintro e w1 ⟨rfl, he⟩
   have HX := hid he
   clear he
   go_wp2
   go_ret
   exact ⟨rfl, HX.out⟩
 · have g1 : ¬ (b.length : Int) > 5000 := by omega
   have HL := hid (show b.length ≤ 1000000 by omega)
   have HDC := hid (fun W' (he : Ext w W') => sDecodeS_any _ b W' (HV.out.ext he) HL.out)
   have HRD := hid (fun W' (he : Ext w W') => rDecode26_any _ b W' (HV.out.ext he) HL.out)
   rw [(rres_dec b).1, (rres_dec b).2] at HRD
   obtain ⟨hsm, hm4, hgd, her⟩ := dec_facts b
   generalize sres (decP b) = S at *
   generalize serr (decP b) = er at *
   generalize (decP b).2 = ok at *
   have HRS := hid (fun W' (nv iv av nv' iv' av' : Value) (h1 : ScR 2 W' nv iv av S) (h2 : ScR 2 W' nv' iv' av' S) => (rSame26_any 2 2 S S nv iv av nv' iv' av' W' h1 h2 hsm hsm hm4).mono fun _ _ q => EqP.is26 (b := true) (by simp) q)
   have HEN := hid (fun W' (nv iv av : Value) (h1 : ScR 2 W' nv iv av S) (hok : ok = true) => (sEncode_any 2 S nv iv av W' h1 hsm (hgd hok).1).mono fun e w' q => show ∃ u, e = .returned (.tuple #[u, .int .i64 0]) ∧ RB w' u b ∧ Ext W' w' by rw [(hgd hok).2] at q; exact q)
   obtain ⟨⟨z0, z1, z2, z3⟩, ⟨zl, z4⟩, zi, za⟩ := S
   dsimp only [scAg, scL8] at HDC HRD HRS HEN
   have HER := hid her
   clear hsm hm4 hgd her
   have hbs := bs_eq26 b
   have g2 : ¬ (5000 : Int) < (b.length : Int) := g1
   generalize (b.length : Nat) = bn at *
   go_enter Tryz.func4, Tryz.ntmps4
   go_wp2_with fail
   refine (HDC.out _ (Ext.refl _)).mono ?_
   rintro e w1 ⟨nv, iv, av, rfl, hs1, he⟩
   have hs1 := hs1 w1 (ExtQ.refl _ _)
   obtain ⟨⟨A1, c1, rfl⟩, ⟨A2, c2, rfl⟩, ⟨A3, c3, rfl⟩⟩ := hs1.form
   dsimp only at *
   have HS1 := hid hs1
   have HX1 := hid he
   clear hs1 he
   go_upto_region 4 with fail
   have hal := (Ext.refl w1).alloc (.cells #[.int .i64 z0, .int .i64 z1, .int .i64 z2, .int .i64 z3, .slice A1 zl.length c1, .int .i64 z4, .slice A2 zi.length c2, .slice A3 za.length c3] 30)
   have HB1 := hid (Bx8.new w1 30 (.int .i64 z0) (.int .i64 z1) (.int .i64 z2) (.int .i64 z3) (.slice A1 zl.length c1) (.int .i64 z4) (.slice A2 zi.length c2) (.slice A3 za.length c3))
   have HX2 := hid (HX1.out.trans hal)
   have HS2 := hid (HS1.out.ext hal)
   clear hal
   generalize w1.alloc (.cells #[.int .i64 z0, .int .i64 z1, .int .i64 z2, .int .i64 z3, .slice A1 zl.length c1, .int .i64 z4, .slice A2 zi.length c2, .slice A3 za.length c3] 30) = w2 at *
   generalize w1.heap.size = p at *
   clear HS1 HX1
   go_wp2_with fail
   refine (HRD.out _ HX2.out).mono ?_
   rintro e w3 ⟨nv, iv, av, rfl, hs3, he⟩
   obtain ⟨⟨B1, d1, rfl⟩, ⟨B2, d2, rfl⟩, ⟨B3, d3, rfl⟩⟩ := hs3.form
   dsimp only at *
   have HS3 := hid hs3
   have HX3 := hid (HX2.out.trans he)
   have HB3 := hid (HB1.out.ext he)
   have HT3 := hid (HS2.out.ext he)
   clear hs3 he HB1 HS2 HX2
   go_upto_region 5 with fail
   have hal := (Ext.refl w3).alloc (.cells #[.int .i64 z0, .int .i64 z1, .int .i64 z2, .int .i64 z3, .slice B1 zl.length d1, .int .i64 z4, .slice B2 zi.length d2, .slice B3 za.length d3] 30)
   have HC4 := hid (Bx8.new w3 30 (.int .i64 z0) (.int .i64 z1) (.int .i64 z2) (.int .i64 z3) (.slice B1 zl.length d1) (.int .i64 z4) (.slice B2 zi.length d2) (.slice B3 za.length d3))
   have HX4 := hid (HX3.out.trans hal)
   have HB4 := hid (HB3.out.ext hal)
   have HS4 := hid (HT3.out.ext hal)
   have HT4 := hid (HS3.out.ext hal)
   clear hal
   generalize w3.alloc (.cells #[.int .i64 z0, .int .i64 z1, .int .i64 z2, .int .i64 z3, .slice B1 zl.length d1, .int .i64 z4, .slice B2 zi.length d2, .slice B3 za.length d3] 30) = w4 at *
   generalize w3.heap.size = q at *
   clear HB3 HS3 HX3 HT3
   go_wp2_with fail
   refine (HLV.out _ HX4.out).mono ?_
   rintro e w5 ⟨rfl, he⟩
   have HX5 := hid (HX4.out.trans he)
   have HS5 := hid (HS4.out.ext he)
   have HT5 := hid (HT4.out.ext he)
   have HB5 := hid (HB4.out.ext he)
   obtain ⟨c0, c1', c2', c3', c4, c5, c6, c7⟩ := HB5.out.at_
   obtain ⟨e0, e1, e2, e3, e4, e5, e6, e7⟩ := (HC4.out.ext he).at_
   clear he
   go_wp2_with fail
   refine (HRS.out _ _ _ _ _ _ _ HS5.out HT5.out).mono ?_
   rintro e w6 ⟨rfl, he⟩
   have HX6 := hid (HX5.out.trans he)
   have HS6 := hid (HS5.out.ext he)
   have HB6 := hid (HB5.out.ext he)
   clear c0 c1' c2' c3' c4 c5 c6 c7 e0 e1 e2 e3 e4 e5 e6 e7 he
   cases ok with
   | false =>
    obtain rfl : er = 260 := HER.out
    go_wp2
    go_ret
    exact ⟨rfl, HX6.out⟩
   | true =>
    obtain rfl : er = 0 := HER.out
    obtain ⟨c0, c1', c2', c3', c4, c5, c6, c7⟩ := HB6.out.at_
    go_wp2_with fail
    refine (HEN.out _ _ _ _ HS6.out (by first | rfl | trivial)).mono ?_
    rintro e w7 ⟨u, rfl, hu, he⟩
    have HX7 := hid (HX6.out.trans he)
    have hs1 := strB hu
    have hs2 := strB (HV.out.ext HX7.out)
    obtain ⟨AU, cU, rfl⟩ := hu.form
    clear hu he c0 c1' c2' c3' c4 c5 c6 c7
    go_wp2
    go_ret
    exact ⟨rfl, HX7.out⟩
end Go.Proofs.YtpmpjjhchkoboaaGreatDoor
