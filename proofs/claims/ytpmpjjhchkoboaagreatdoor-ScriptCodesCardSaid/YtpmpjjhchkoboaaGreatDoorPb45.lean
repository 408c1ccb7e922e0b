/-
  ScrLawB, packed: what the claim needs of them.
-/
import Derived.Test.YtpmpjjhchkoboaaGreatDoorPb44
set_option linter.unusedVariables false
namespace Go.Proofs.YtpmpjjhchkoboaaGreatDoor
open Go.RowKit Go.Ox Go.Ox.Gr Go.Ox.Sc
theorem scriptCodes_law (W : World) (ht : Tab W) (v0 : Value) (x0 : ScArg) (b0 : v0 = scAg x0.2 x0.1.1 x0.1.2.1 x0.1.2.2.1 ∧ ScR x0.1.2.2.2 W x0.1.1 x0.1.2.1 x0.1.2.2.1 x0.2)
    (v1 : Value) (x1 : ScArg) (b1 : v1 = scAg x1.2 x1.1.1 x1.1.2.1 x1.1.2.2.1 ∧ ScR x1.1.2.2.2 W x1.1.1 x1.1.2.1 x1.1.2.2.1 x1.2) :
    Calls Tryz.prog 3 #[v0, v1] W fun e w' => e = .returned (.bool true) ∧ Ext W w' := by
  obtain ⟨⟨nv, iv, av, d⟩, s⟩ := x0
  obtain ⟨⟨nv', iv', av', d'⟩, t⟩ := x1
  obtain ⟨rfl, h⟩ := b0
  obtain ⟨rfl, h'⟩ := b1
  dsimp only at h h' ⊢
  obtain ⟨⟨A, c, rfl⟩, ⟨B, m, rfl⟩, ⟨C, k, rfl⟩⟩ := h.form
  obtain ⟨⟨A', c', rfl⟩, ⟨B', m', rfl⟩, ⟨C', k', rfl⟩⟩ := h'.form
  have HL1 := fun W' (he : Ext W W') => rLarge26_any d s _ _ _ W' (h.ext he)
  have HL2 := fun W' (he : Ext W W') => rLarge26_any d' t _ _ _ W' (h'.ext he)
  have HLV := fun W' (he : Ext W W') => lives26_any W' (ht.ext he)
  cases hb : scBig s || scBig t with
  | true => exact codes_large hb W _ _ _ _ _ _ _ _ _ _ _ _ _ _ _ _ _ _ _ _ _ _ _ _ _ _ _ _ HL1 HL2 HLV
  | false =>
    obtain ⟨hb1, hb2⟩ := Bool.or_eq_false_iff.1 hb
    have hs := ScSm.of_big hb1
    have ht' := ScSm.of_big hb2
    have hm : Sm 4 s.g.1 := Gr.Sm.of_deep (scBig_no hb1).1
    obtain ⟨bb, hbb⟩ := eq26 (nrm s) (nrm t)
    have HSA := fun W' (he : Ext W W') => (sSame_any d d' s t _ _ _ _ _ _ W' (h.ext he) (h'.ext he) hs ht' hm).mono fun _ _ q => EqP.is26 hbb q
    have HRS := fun W' (he : Ext W W') => (rSame26_any d d' s t _ _ _ _ _ _ W' (h.ext he) (h'.ext he) hs ht' hm).mono fun _ _ q => EqP.is26 hbb q
    have HCK := fun W' (he : Ext W W') => rCheck26_any d s _ _ _ W' (h.ext he) hs
    have HCS := fun W' (he : Ext W W') => sCheck_any d s _ _ _ W' (h.ext he) hs
    cases hok : scOk s with
    | false =>
      rw [hok] at HCK
      have e1 : scE s = 260 := by unfold scE; rw [hok]; rfl
      rw [e1] at HCS
      have HEN := fun W' (he : Ext W W') => sEncode_bad d s _ _ _ W' (h.ext he) hs hok
      exact codes_bad hb1 hb2 W _ _ _ _ _ _ _ _ _ _ _ _ _ _ _ _ _ _ _ _ _ _ _ _ _ _ _ _ HL1 HL2 HLV HSA HRS HEN HCK HCS
    | true =>
      rw [hok] at HCK
      have e1 : scE s = 0 := by unfold scE; rw [hok]; rfl
      rw [e1] at HCS
      have HEN := fun W' (he : Ext W W') => sEncode_any d s _ _ _ W' (h.ext he) hs hok
      have HRE := fun W' (he : Ext W W') => rEncode26_any d s _ _ _ W' (h.ext he) hok
      refine codes_good hb1 hb2 (scL_short hok hb1) W _ _ _ _ _ _ _ _ _ _ _ _ _ _ _ _ _ _ _ _ _ _ _ _ _ _ _ _ HL1 HL2 HLV HSA HRS HEN HCK HCS HRE fun V u he hu => ?_
      have hd := sDecodeS_any u (scL s) V hu (scL_short hok hb1)
      have e2 : sres (decP (scL s)) = nrm s := by rw [dec_nrm hok]; rfl
      have e3 : serr (decP (scL s)) = 0 := by rw [dec_nrm hok]; rfl
      rw [e2, e3] at hd
      refine hd.mono ?_
      rintro e w' ⟨nz, iz, az, rfl, hz, hx⟩
      have hz0 := hz w' (ExtQ.refl _ _)
      obtain ⟨⟨A2, c2, rfl⟩, ⟨B2, m2, rfl⟩, ⟨C2, k2, rfl⟩⟩ := hz0.form
      refine ⟨_, _, _, _, _, _, _, _, _, _, _, _, _, _, rfl, fun V' hV => ?_, hx⟩
      refine (rSame26_any 2 d (nrm s) s _ _ _ _ _ _ V' (hz0.ext hV) (h.ext ((he.trans hx).trans hV)) (nrm_sm hs) hs hm).mono fun e V2 q => ?_
      rw [nrm_nrm] at q
      exact EqP.is26 (by simp) q
end Go.Proofs.YtpmpjjhchkoboaaGreatDoor
