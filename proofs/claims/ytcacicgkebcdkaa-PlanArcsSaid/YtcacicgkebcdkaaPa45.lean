/-
  PlArcsL, packed: what the claim needs of them.
-/
import Derived.Test.YtcacicgkebcdkaaPa38
import Derived.Test.YtcacicgkebcdkaaPa39
import Derived.Test.YtcacicgkebcdkaaPa40
import Derived.Test.YtcacicgkebcdkaaPa44
import Derived.BigRegion
namespace Go.Ox.Pl
open Go.Ox.Gr Go.Proofs.Ytcacicgkebcdkaa
def srcF (p : P2) (a : Ar) : Option P2 := if a.1.2 = p then some a.1.1 else none
theorem none_of {g : G} (h : gOk g = false) : gPl g = [] ∧ arcsL g = [] ∧ insL g = [] := by
  have h1 : gPl g = [] := by unfold gPl; rw [if_neg (by rw [h]; simp)]
  refine ⟨h1, ?_, ?_⟩
  · unfold arcsL; rw [h1]; rfl
  · unfold insL; rw [h1]; rfl
/-- the loop's body, at its ends -/
theorem ins_at {g : G} (hok : gOk g = true) (hl : ¬ loopAt g.1 < 0) : ∃ (n : Nat) (hn : n < g.1.length), loopAt g.1 = (n : Int) ∧ (insL g).length = g.1[n].body.length ∧ 1 ≤ g.1[n].body.length ∧ g.1[n].body.length ≤ 32 ∧
    (∀ h : 0 < (insL g).length, (insL g)[0] = ((n : Int), 0)) ∧ (∀ h : g.1[n].body.length - 1 < (insL g).length, (insL g)[g.1[n].body.length - 1] = ((n : Int), ((g.1[n].body.length - 1 : Nat) : Int))) ∧ (insL g).getLast? = some ((n : Int), ((g.1[n].body.length - 1 : Nat) : Int)) := by
  obtain ⟨l, out⟩ := g
  have hl : ¬ loopAt l < 0 := hl
  obtain ⟨n, hn, i0, -, hln, hN, h9, hb1, hb2, -⟩ := lp_of (l := l) (out := out) (show loopB (l, out) = true from by unfold loopB; rw [hok]; simp; omega)
  have e := ins_loop hok hn hln
  refine ⟨n, hn, hln, by rw [e]; simp, hb1, hb2, ?_, ?_, ?_⟩
  · intro h; simp [e]
  · intro h; simp [e]
  · rw [e, List.getLast?_eq_getElem?]
    simp only [List.length_map, List.length_range]
    rw [List.getElem?_eq_getElem (by simp; omega)]
    simp
end Go.Ox.Pl
namespace Go.Proofs.Ytcacicgkebcdkaa
open Go.RowKit Go.Ox Go.Ox.Gr Mo
set_option linter.unusedVariables false
set_option linter.unusedSimpArgs false
attribute [local irreducible] RE OE NodesR
set_option maxRecDepth 100000 in
set_option maxHeartbeats 8000000 in
theorem planArcs_any (d : Nat) (v : Value) (g : G) (p : Pl.P2) (w : World) (hv : NodesR d w v g.1) :
    Calls Try.prog 3 #[gAg v g.2, plV p] w fun e w' => e = .returned (.bool true) ∧ Ext w w' := by
  have HLG := Lib.hid (fun W (h : Ext w W) => large20_any d v g W (hv.ext h))
  have HAR := Lib.hid (fun (h : Pl.large g = false) W (hW : Ext w W) => arcs_own d v g W (hv.ext hW) (Pl.large_no h))
  have HSO := Lib.hid (fun (h : Pl.large g = false) W (hW : Ext w W) => sources_any d v g p W (hv.ext hW) (Pl.large_no h))
  have HIN := Lib.hid (fun W (hW : Ext w W) => inside_any d v g W (hv.ext hW))
  have HLA := Lib.hid (fun W (hW : Ext w W) => last_any d v g W (hv.ext hW))
  have HCK := Lib.hid (fun W (h : Ext w W) => rCheck_any d v g.1 g.2 W (hv.ext h))
  have HRA := Lib.hid (fun (h : Pl.large g = false) (hok : gOk g = true) W (hW : Ext w W) => rarcs_any d v g W (hv.ext hW) hok (Pl.large_no h))
  have HLO := Lib.hid (fun (hok : gOk g = true) W (h : Ext w W) => rLoop_any d v g.1 g.2 W (hv.ext h) (by have := gOk_len hok; omega))
  have HSL := Lib.hid (show Pl.srcL g p = (Pl.arcsL g).filterMap (Pl.srcF p) from rfl)
  have HSF := Lib.hid (fun a => (show Pl.srcF p a = if a.1.2 = p then some a.1.1 else none from rfl))
  have HNO := Lib.hid (fun (h : gOk g = false) => Pl.none_of h)
  have HIA := Lib.hid (fun (hok : gOk g = true) hl => Pl.ins_at hok hl)
  have HIZ := Lib.hid (fun (hok : gOk g = true) (hl : loopAt g.1 < 0) => (show Pl.insL g = [] from Pl.ins_no (l := g.1) (out := g.2) hok hl))
  have HLN := Lib.hid (fun (h : Pl.large g = false) => Pl.arcsL_len (Pl.large_no h))
  have HV := Lib.hid hv
  obtain ⟨l, out⟩ := g
  simp only at HCK HLO hv HIA HIZ HV
  generalize Pl.large (l, out) = LG at *
  generalize Pl.srcL (l, out) p = SL at *
  generalize Pl.arcsL (l, out) = AL at *
  generalize Pl.insL (l, out) = IL at *
  generalize gPl (l, out) = PL at *
  generalize gOk (l, out) = ok at *
  generalize Pl.srcF p = SF at *
  obtain ⟨A, c, rfl⟩ := hv.form
  obtain ⟨p1, p2⟩ := p
  have HX := Lib.hid (show Ext w ((w.alloc (.cells #[.slice A l.length c, .int .i64 out] 24)).alloc (.cells #[.int .i64 p1, .int .i64 p2] 26)) from allocs_ext [(#[.slice A l.length c, .int .i64 out], 24), (#[.int .i64 p1, .int .i64 p2], 26)] w)
  have HB0 := Lib.hid (show Blk ((w.alloc (.cells #[.slice A l.length c, .int .i64 out] 24)).alloc (.cells #[.int .i64 p1, .int .i64 p2] 26)) (w.heap.size) 24 #[.slice A l.length c, .int .i64 out] from allocs_at [(#[.slice A l.length c, .int .i64 out], 24), (#[.int .i64 p1, .int .i64 p2], 26)] w 0 _ _ rfl)
  have HB1 := Lib.hid (show Blk ((w.alloc (.cells #[.slice A l.length c, .int .i64 out] 24)).alloc (.cells #[.int .i64 p1, .int .i64 p2] 26)) (w.heap.size + 1) 26 #[.int .i64 p1, .int .i64 p2] from allocs_at [(#[.slice A l.length c, .int .i64 out], 24), (#[.int .i64 p1, .int .i64 p2], 26)] w 1 _ _ rfl)
  clear hv
  go_enter Try.func3, Try.ntmps3
  go_upto_region 1 with fail
  generalize w.heap.size = bn at *
  generalize (w.alloc (.cells #[.slice A l.length c, .int .i64 out] 24)).alloc (.cells #[.int .i64 p1, .int .i64 p2] 26) = w0 at *
  have c00 : w0.cell? ⟨bn, 0, none⟩ = some (.slice A l.length c) := HB0.out.cell 0
  have c01 : w0.cell? ⟨bn, 1, none⟩ = some (.int .i64 out) := HB0.out.cell 1
  have c10 : w0.cell? ⟨bn + 1, 0, none⟩ = some (.int .i64 p1) := HB1.out.cell 0
  have c11 : w0.cell? ⟨bn + 1, 1, none⟩ = some (.int .i64 p2) := HB1.out.cell 1
  go_wp2_with fail
  refine (HLG.out w0 HX.out).mono ?_
  rintro e w1 ⟨rfl, he⟩
  clear c00 c01 c10 c11
  have HX := Lib.hid (HX.out.trans he)
  have HB0 := Lib.hid (HB0.out.ext he)
  have HB1 := Lib.hid (HB1.out.ext he)
  clear he
  cases LG with
  | true =>
    go_wp2_with fail
    refine (lives20_any w1).mono ?_
    rintro e w2 ⟨rfl, he⟩
    have HX := Lib.hid (HX.out.trans he)
    clear he
    go_wp2
    go_ret
    exact ⟨rfl, HX.out⟩
  | false =>
  have HA9 := Lib.hid (HAR.out (by first | rfl | trivial))
  have HS9 := Lib.hid (HSO.out (by first | rfl | trivial))
  have c00 : w1.cell? ⟨bn, 0, none⟩ = some (.slice A l.length c) := HB0.out.cell 0
  have c01 : w1.cell? ⟨bn, 1, none⟩ = some (.int .i64 out) := HB0.out.cell 1
  have c10 : w1.cell? ⟨bn + 1, 0, none⟩ = some (.int .i64 p1) := HB1.out.cell 0
  have c11 : w1.cell? ⟨bn + 1, 1, none⟩ = some (.int .i64 p2) := HB1.out.cell 1
  go_wp2
  refine wp_regionY [] [] Ext Ext (fun _ => True) (by kernel_rfl) (by rfl) (by rfl) (by kernel_rfl) (by kernel_rfl) (by kernel_rfl) (fun _ _ _ x y => x.trans y) Ext.refl (fun _ _ x => x) (Ext.refl _).drew (fun _ _ x _ => x) trivial ?_
  refine wpY_val rfl rfl (by first | exact runs0 | exact runs1 rfl) Ext.refl rfl ?_; apply Exists.intro; refine ⟨?_, ?_⟩
  · intro a w' hR h1
    have e1 : _ = _ := h1
    have hl0 := hR.cell c00
    have hl1 := hR.cell c01
    go_simp
    rfl
  refine wpY_call (fun v w2 => RE w2 v AL) rfl rfl (by first | exact runs0 | exact runs1 rfl) rfl (by first | exact mono_eq | exact (fun _ _ _ h k => Rd.ext h k) | exact (fun _ _ _ h k => RB.ext h k) | exact (fun _ _ _ h k => OB.ext h k) | exact (fun _ _ _ h k => RB.extS h k) | exact (fun _ _ _ h k => Rd.ext h (GrownW.ext k)) | exact (fun _ _ _ h k => RP.ext h k) | exact (fun _ _ _ h k => OP.ext h k) | exact (fun _ _ _ h k => Rd.extV h k) | exact (fun _ _ _ h k => RB.extV h k) | exact (fun _ _ _ h k => E0.ext h k) | exact (fun _ _ _ h k => O0.ext h k) | exact (fun _ _ _ h k => RE.ext h k) | exact (fun _ _ _ h k => RE.extD h k) | exact (fun _ _ _ h _ => h) | exact (fun _ _ _ ⟨n, h1, h2⟩ k => ⟨n, h1, k.st _ _ h2⟩) | exact (fun _ _ _ h k => OE.ext h k)) ?_ ?_
  · intro a w' hR h1 K hK
    have e1 : _ = _ := h1
    go_simp
    refine (HA9.out w' (HX.out.trans hR)).mono ?_
    rintro e w2 ⟨v9, rfl, ho9, he⟩
    exact hK _ _ he ho9.re
  refine wpY_val rfl rfl (by first | exact runs0 | exact runs1 rfl) Ext.refl rfl ?_; apply Exists.intro; refine ⟨?_, ?_⟩
  · intro a w' hR h1
    have e1 : _ = _ := h1
    have hl0 := hR.cell c00
    have hl1 := hR.cell c01
    go_simp
    rfl
  refine wpY_val rfl rfl (by first | exact runs0 | exact runs1 rfl) Ext.refl rfl ?_; apply Exists.intro; refine ⟨?_, ?_⟩
  · intro a w' hR h1
    have e1 : _ = _ := h1
    have hl0 := hR.cell c10
    have hl1 := hR.cell c11
    go_simp
    rfl
  refine wpY_call (fun v w2 => RE w2 v SL) rfl rfl (by first | exact runs0 | exact runs1 rfl) rfl (by first | exact mono_eq | exact (fun _ _ _ h k => Rd.ext h k) | exact (fun _ _ _ h k => RB.ext h k) | exact (fun _ _ _ h k => OB.ext h k) | exact (fun _ _ _ h k => RB.extS h k) | exact (fun _ _ _ h k => Rd.ext h (GrownW.ext k)) | exact (fun _ _ _ h k => RP.ext h k) | exact (fun _ _ _ h k => OP.ext h k) | exact (fun _ _ _ h k => Rd.extV h k) | exact (fun _ _ _ h k => RB.extV h k) | exact (fun _ _ _ h k => E0.ext h k) | exact (fun _ _ _ h k => O0.ext h k) | exact (fun _ _ _ h k => RE.ext h k) | exact (fun _ _ _ h k => RE.extD h k) | exact (fun _ _ _ h _ => h) | exact (fun _ _ _ ⟨n, h1, h2⟩ k => ⟨n, h1, k.st _ _ h2⟩) | exact (fun _ _ _ h k => OE.ext h k)) ?_ ?_
  · intro a w' hR h1 h2 K hK
    have e1 : _ = _ := h1
    have e2 : _ = _ := h2
    go_simp
    refine (HS9.out w' (HX.out.trans hR)).mono ?_
    rintro e w2 ⟨v9, rfl, ho9, he⟩
    exact hK _ _ he ho9
  refine wpY_val rfl rfl (by first | exact runs0 | exact runs1 rfl) Ext.refl rfl ?_; apply Exists.intro; refine ⟨?_, ?_⟩
  · intro a w' hR h1
    have e1 : _ = _ := h1
    have hl0 := hR.cell c00
    have hl1 := hR.cell c01
    go_simp
    rfl
  refine wpY_call (fun v w2 => RE w2 v IL) rfl rfl (by first | exact runs0 | exact runs1 rfl) rfl (by first | exact mono_eq | exact (fun _ _ _ h k => Rd.ext h k) | exact (fun _ _ _ h k => RB.ext h k) | exact (fun _ _ _ h k => OB.ext h k) | exact (fun _ _ _ h k => RB.extS h k) | exact (fun _ _ _ h k => Rd.ext h (GrownW.ext k)) | exact (fun _ _ _ h k => RP.ext h k) | exact (fun _ _ _ h k => OP.ext h k) | exact (fun _ _ _ h k => Rd.extV h k) | exact (fun _ _ _ h k => RB.extV h k) | exact (fun _ _ _ h k => E0.ext h k) | exact (fun _ _ _ h k => O0.ext h k) | exact (fun _ _ _ h k => RE.ext h k) | exact (fun _ _ _ h k => RE.extD h k) | exact (fun _ _ _ h _ => h) | exact (fun _ _ _ ⟨n, h1, h2⟩ k => ⟨n, h1, k.st _ _ h2⟩) | exact (fun _ _ _ h k => OE.ext h k)) ?_ ?_
  · intro a w' hR h1 K hK
    have e1 : _ = _ := h1
    go_simp
    refine (HIN.out w' (HX.out.trans hR)).mono ?_
    rintro e w2 ⟨v9, rfl, ho9, he⟩
    exact hK _ _ he ho9
  (refine wpY_assign rfl rfl rfl rfl rfl (by first | exact runs0 | exact runs1 rfl) Ext.refl (by first | exact mono_eq | exact (fun _ _ _ h k => Rd.ext h k) | exact (fun _ _ _ h k => RB.ext h k) | exact (fun _ _ _ h k => OB.ext h k) | exact (fun _ _ _ h k => RB.extS h k) | exact (fun _ _ _ h k => Rd.ext h (GrownW.ext k)) | exact (fun _ _ _ h k => RP.ext h k) | exact (fun _ _ _ h k => OP.ext h k) | exact (fun _ _ _ h k => Rd.extV h k) | exact (fun _ _ _ h k => RB.extV h k) | exact (fun _ _ _ h k => E0.ext h k) | exact (fun _ _ _ h k => O0.ext h k) | exact (fun _ _ _ h k => RE.ext h k) | exact (fun _ _ _ h k => RE.extD h k) | exact (fun _ _ _ h _ => h) | exact (fun _ _ _ ⟨n, h1, h2⟩ k => ⟨n, h1, k.st _ _ h2⟩) | exact (fun _ _ _ h k => OE.ext h k)) ?_)
  (refine wpY_assign rfl rfl rfl rfl rfl (by first | exact runs0 | exact runs1 rfl) Ext.refl (by first | exact mono_eq | exact (fun _ _ _ h k => Rd.ext h k) | exact (fun _ _ _ h k => RB.ext h k) | exact (fun _ _ _ h k => OB.ext h k) | exact (fun _ _ _ h k => RB.extS h k) | exact (fun _ _ _ h k => Rd.ext h (GrownW.ext k)) | exact (fun _ _ _ h k => RP.ext h k) | exact (fun _ _ _ h k => OP.ext h k) | exact (fun _ _ _ h k => Rd.extV h k) | exact (fun _ _ _ h k => RB.extV h k) | exact (fun _ _ _ h k => E0.ext h k) | exact (fun _ _ _ h k => O0.ext h k) | exact (fun _ _ _ h k => RE.ext h k) | exact (fun _ _ _ h k => RE.extD h k) | exact (fun _ _ _ h _ => h) | exact (fun _ _ _ ⟨n, h1, h2⟩ k => ⟨n, h1, k.st _ _ h2⟩) | exact (fun _ _ _ h k => OE.ext h k)) ?_)
  (refine wpY_assign rfl rfl rfl rfl rfl (by first | exact runs0 | exact runs1 rfl) Ext.refl (by first | exact mono_eq | exact (fun _ _ _ h k => Rd.ext h k) | exact (fun _ _ _ h k => RB.ext h k) | exact (fun _ _ _ h k => OB.ext h k) | exact (fun _ _ _ h k => RB.extS h k) | exact (fun _ _ _ h k => Rd.ext h (GrownW.ext k)) | exact (fun _ _ _ h k => RP.ext h k) | exact (fun _ _ _ h k => OP.ext h k) | exact (fun _ _ _ h k => Rd.extV h k) | exact (fun _ _ _ h k => RB.extV h k) | exact (fun _ _ _ h k => E0.ext h k) | exact (fun _ _ _ h k => O0.ext h k) | exact (fun _ _ _ h k => RE.ext h k) | exact (fun _ _ _ h k => RE.extD h k) | exact (fun _ _ _ h _ => h) | exact (fun _ _ _ ⟨n, h1, h2⟩ k => ⟨n, h1, k.st _ _ h2⟩) | exact (fun _ _ _ h k => OE.ext h k)) ?_)
  refine wpY_done ?_
  intro w2 he hS
  iterate 1 (rintro _ rfl)
  iterate 1 (intro _ hz; clear hz)
  iterate 2 (rintro _ rfl)
  iterate 1 (intro _ hz; clear hz)
  iterate 1 (rintro _ rfl)
  iterate 1 (intro _ hz; clear hz)
  rintro v5 h5
  rintro v6 h6
  rintro v7 h7
  dsimp only [FinV]
  go_simp
  have he : Ext w1 w2 := he
  have hA : RE w2 v5 AL := h5
  have hS5 : RE w2 v6 SL := h6
  have hI : RE w2 v7 IL := h7
  obtain ⟨AA, cA, rfl⟩ := hA.form
  obtain ⟨AS, cS, rfl⟩ := hS5.form
  obtain ⟨AI, cI, rfl⟩ := hI.form
  have HA := Lib.hid hA
  have HS := Lib.hid hS5
  have HI := Lib.hid hI
  clear h5 h6 h7 hA hS5 hI hS HA9 HS9
  clear c00 c01 c10 c11
  have HX := Lib.hid (HX.out.trans he)
  have HB0 := Lib.hid (HB0.out.ext he)
  have HB1 := Lib.hid (HB1.out.ext he)
  clear he
  have c00 : w2.cell? ⟨bn, 0, none⟩ = some (.slice A l.length c) := HB0.out.cell 0
  have c01 : w2.cell? ⟨bn, 1, none⟩ = some (.int .i64 out) := HB0.out.cell 1
  have c10 : w2.cell? ⟨bn + 1, 0, none⟩ = some (.int .i64 p1) := HB1.out.cell 0
  have c11 : w2.cell? ⟨bn + 1, 1, none⟩ = some (.int .i64 p2) := HB1.out.cell 1
  go_wp2_with fail
  refine (HLA.out w2 HX.out).mono ?_
  rintro e w3 ⟨rfl, he⟩
  obtain ⟨la1, la2, lab, hla⟩ : ∃ a b c, lastO IL = .tuple #[.agg #[.int .i64 a, .int .i64 b], .bool c] := by
    unfold lastO
    cases IL.getLast? with
    | none => exact ⟨0, 0, false, rfl⟩
    | some x => exact ⟨x.1, x.2, true, rfl⟩
  rw [hla]
  have HLL := Lib.hid hla
  clear hla
  have heb := he.alloc (.cells #[.int .i64 la1, .int .i64 la2] 26)
  have Hx := Lib.hid (Blk.new w3 26 #[.int .i64 la1, .int .i64 la2])
  clear he
  clear c00 c01 c10 c11
  have HX := Lib.hid (HX.out.trans heb)
  have HB0 := Lib.hid (HB0.out.ext heb)
  have HB1 := Lib.hid (HB1.out.ext heb)
  have HA := Lib.hid (HA.out.ext heb)
  have HS := Lib.hid (HS.out.ext heb)
  have HI := Lib.hid (HI.out.ext heb)
  clear heb
  go_upto_region 5 with fail
  obtain ⟨bx, hbx⟩ : ∃ b, b = w3.heap.size := ⟨_, rfl⟩
  rw [← hbx] at Hx ⊢
  clear hbx
  generalize w3.alloc (.cells #[.int .i64 la1, .int .i64 la2] 26) = w4 at *
  go_wp2_with fail
  refine (lives20_any w4).mono ?_
  rintro e w5 ⟨rfl, he⟩
  have HX := Lib.hid (HX.out.trans he)
  have HB0 := Lib.hid (HB0.out.ext he)
  have HB1 := Lib.hid (HB1.out.ext he)
  have Hx := Lib.hid (Hx.out.ext he)
  have HA := Lib.hid (HA.out.ext he)
  have HS := Lib.hid (HS.out.ext he)
  have HI := Lib.hid (HI.out.ext he)
  clear he
  have c00 : w5.cell? ⟨bn, 0, none⟩ = some (.slice A l.length c) := HB0.out.cell 0
  have c01 : w5.cell? ⟨bn, 1, none⟩ = some (.int .i64 out) := HB0.out.cell 1
  have c10 : w5.cell? ⟨bn + 1, 0, none⟩ = some (.int .i64 p1) := HB1.out.cell 0
  have c11 : w5.cell? ⟨bn + 1, 1, none⟩ = some (.int .i64 p2) := HB1.out.cell 1
  have x0 : w5.cell? ⟨bx, 0, none⟩ = some (.int .i64 la1) := Hx.out.cell 0
  have x1 : w5.cell? ⟨bx, 1, none⟩ = some (.int .i64 la2) := Hx.out.cell 1
  go_wp2_with fail
  refine (HCK.out w5 HX.out).mono ?_
  rintro e w6 ⟨rfl, he⟩
  clear c00 c01 c10 c11 x0 x1
  have HX := Lib.hid (HX.out.trans he)
  have HB0 := Lib.hid (HB0.out.ext he)
  have HB1 := Lib.hid (HB1.out.ext he)
  have Hx := Lib.hid (Hx.out.ext he)
  have HA := Lib.hid (HA.out.ext he)
  have HS := Lib.hid (HS.out.ext he)
  have HI := Lib.hid (HI.out.ext he)
  clear he
  cases ok with
  | false =>
    obtain ⟨e1, e2, e3⟩ := HNO.out (by first | rfl | trivial)
    have e4 : SL = [] := by rw [HSL.out, e2]; rfl
    subst e2 e3 e4
    have hlx : lab = false := by
      have := HLL.out
      unfold lastO at this
      simp at this
      first | exact this.2 | exact this.2.2.symm | exact this.2.symm
    subst hlx
    clear HA HS HI HLL
    go_wp2
    go_ret
    exact ⟨rfl, HX.out⟩
  | true =>
    have c00 : w6.cell? ⟨bn, 0, none⟩ = some (.slice A l.length c) := HB0.out.cell 0
    have c01 : w6.cell? ⟨bn, 1, none⟩ = some (.int .i64 out) := HB0.out.cell 1
    have c10 : w6.cell? ⟨bn + 1, 0, none⟩ = some (.int .i64 p1) := HB1.out.cell 0
    have c11 : w6.cell? ⟨bn + 1, 1, none⟩ = some (.int .i64 p2) := HB1.out.cell 1
    have x0 : w6.cell? ⟨bx, 0, none⟩ = some (.int .i64 la1) := Hx.out.cell 0
    have x1 : w6.cell? ⟨bx, 1, none⟩ = some (.int .i64 la2) := Hx.out.cell 1
    go_wp2_with fail
    refine (HRA.out (by first | rfl | trivial) (by first | rfl | trivial) w6 HX.out).mono ?_
    rintro e w7 ⟨ub, rfl, hub, he⟩
    obtain ⟨AB, cB, rfl⟩ := hub.form
    have HB := Lib.hid hub
    clear hub
    clear c00 c01 c10 c11 x0 x1
    have HX := Lib.hid (HX.out.trans he)
    have HB0 := Lib.hid (HB0.out.ext he)
    have HB1 := Lib.hid (HB1.out.ext he)
    have Hx := Lib.hid (Hx.out.ext he)
    have HA := Lib.hid (HA.out.ext he)
    have HS := Lib.hid (HS.out.ext he)
    have HI := Lib.hid (HI.out.ext he)
    clear he
    have hal := HLN.out (by first | rfl | trivial)
    have hsl : SL.length ≤ 400 := by rw [HSL.out]; exact Nat.le_trans (List.length_filterMap_le _ _) hal
    have hne0 : ((AL.length : Int) != (AL.length : Int)) = false := by simp
    go_wp2
    go_loopw [11, 12] (fun kv iv wr => ∃ i : Nat, i ≤ AL.length ∧ iv = .int .i64 (i : Int) ∧ kv = .int .i64 ((((AL.take i).filterMap SF).length : Nat) : Int) ∧ Ext w7 wr) (fun _ iv _ => AL.length - (intOf iv).toNat)
    case atStart => exact ⟨0, Nat.zero_le _, rfl, rfl, Ext.refl _⟩
    case round =>
      obtain ⟨i, hi, rfl, rfl, hext⟩ := hrel
      rename World => wr
      have HE := Lib.hid hext
      by_cases hlt : i < AL.length
      · have r1 : (i : Int) < (AL.length : Int) := by omega
        have r0 : 0 ≤ (i : Int) := by omega
        have HLT := Lib.hid hlt
        obtain ⟨bA, oA, hAA, hcA⟩ := RE.at_ (HA.out.ext hext) hlt
        obtain ⟨bC, oC, hAC, hcC⟩ := RE.at_ (HB.out.ext hext) hlt
        obtain ⟨y, hy⟩ : ∃ y, AL[i] = y := ⟨_, rfl⟩
        have HTK := Lib.hid (show (AL.take (i + 1)).filterMap SF = (AL.take i).filterMap SF ++ (SF y).toList from by rw [← hy]; exact Pl.fmk SF AL hlt)
        obtain ⟨k, hk⟩ : ∃ k, ((AL.take i).filterMap SF).length = k := ⟨_, rfl⟩
        have HAT := Lib.hid (show ∀ z, SF y = some z → SL[k]? = some z from fun z hz => by rw [HSL.out]; exact Pl.fm_at SF hlt (by subst hy; exact hz) hk)
        have HFX := Lib.hid (HSF.out y)
        replace hcA : ∀ j u, (encA.enc y)[j]? = some u → wr.cell? ⟨bA, oA + i * 6 + j, none⟩ = some u := by subst hy; exact hcA
        replace hcC : ∀ j u, (encA.enc y)[j]? = some u → wr.cell? ⟨bC, oC + i * 6 + j, none⟩ = some u := by subst hy; exact hcC
        have hk9 : k ≤ 400 := by have := List.length_filterMap_le SF (AL.take i); rw [List.length_take] at this; omega
        have HKE := Lib.hid hk
        rw [hk]
        obtain ⟨⟨⟨f1, f2⟩, t1, t2⟩, sw, ad⟩ := y
        have a0 : wr.cell? ⟨bA, oA + i * 6, none⟩ = some (.int .i64 f1) := hcA 0 _ rfl
        have a1 : wr.cell? ⟨bA, oA + i * 6 + 1, none⟩ = some (.int .i64 f2) := hcA 1 _ rfl
        have a2 : wr.cell? ⟨bA, oA + i * 6 + 2, none⟩ = some (.int .i64 t1) := hcA 2 _ rfl
        have a3 : wr.cell? ⟨bA, oA + i * 6 + 3, none⟩ = some (.int .i64 t2) := hcA 3 _ rfl
        have a4 : wr.cell? ⟨bA, oA + i * 6 + 4, none⟩ = some (.bool sw) := hcA 4 _ rfl
        have a5 : wr.cell? ⟨bA, oA + i * 6 + 5, none⟩ = some (.int .i64 ad) := hcA 5 _ rfl
        have b0 : wr.cell? ⟨bC, oC + i * 6, none⟩ = some (.int .i64 f1) := hcC 0 _ rfl
        have b1 : wr.cell? ⟨bC, oC + i * 6 + 1, none⟩ = some (.int .i64 f2) := hcC 1 _ rfl
        have b2 : wr.cell? ⟨bC, oC + i * 6 + 2, none⟩ = some (.int .i64 t1) := hcC 2 _ rfl
        have b3 : wr.cell? ⟨bC, oC + i * 6 + 3, none⟩ = some (.int .i64 t2) := hcC 3 _ rfl
        have b4 : wr.cell? ⟨bC, oC + i * 6 + 4, none⟩ = some (.bool sw) := hcC 4 _ rfl
        have b5 : wr.cell? ⟨bC, oC + i * 6 + 5, none⟩ = some (.int .i64 ad) := hcC 5 _ rfl
        subst hAA hAC
        have g2 : wr.cell? ⟨bn + 1, 0, none⟩ = some (.int .i64 p1) := (HB1.out.ext hext).cell 0
        have g3 : wr.cell? ⟨bn + 1, 1, none⟩ = some (.int .i64 p2) := (HB1.out.ext hext).cell 1
        have HNE := Lib.hid (show ∀ w, (binOp .neq 39 (.agg #[.int .i64 f1, .int .i64 f2, .int .i64 t1, .int .i64 t2, .bool sw, .int .i64 ad]) (.agg #[.int .i64 f1, .int .i64 f2, .int .i64 t1, .int .i64 t2, .bool sw, .int .i64 ad])).run Try.prog w = .ok (.bool false) w from fun w => by
          have := neArD ((((f1, f2), (t1, t2)), (sw, ad)) : Pl.Ar) ((((f1, f2), (t1, t2)), (sw, ad)) : Pl.Ar) w
          rw [decide_eq_true rfl] at this
          exact this)
        have HEQ := Lib.hid (eqPlD t1 t2 p1 p2)
        clear hcA hcC hlt hi hy hk
        go_wp2
        refine wp_regionY [] [] Ext Ext (fun _ => True) (by kernel_rfl) (by rfl) (by rfl) (by kernel_rfl) (by kernel_rfl) (by kernel_rfl) (fun _ _ _ x y => x.trans y) Ext.refl (fun _ _ x => x) (Ext.refl _).drew (fun _ _ x _ => x) trivial ?_
        repeat (first | (refine wpY_move0 rfl rfl (by first | exact runs0 | exact runs1 rfl) Ext.refl rfl rfl rfl ?_; apply Exists.intro; refine ⟨?_, ?_⟩; · (go_simp; rfl)) | (refine wpY_move rfl rfl (by first | exact runs0 | exact runs1 rfl) Ext.refl rfl rfl rfl (fun _ _ _ h _ => h) ?_) | (refine wpY_val rfl rfl (by first | exact runs0 | exact runs1 rfl) Ext.refl rfl ?_; apply Exists.intro; refine ⟨?_, ?_⟩; · (intro a w' hR; intro h1; (first | (have e1 : _ = _ := h1) | skip); intro h2; (first | (have e2 : _ = _ := h2) | skip); go_simp; rfl)) | (refine wpY_val rfl rfl (by first | exact runs0 | exact runs1 rfl) Ext.refl rfl ?_; apply Exists.intro; refine ⟨?_, ?_⟩; · (intro a w' hR; intro h1; (first | (have e1 : _ = _ := h1) | skip); go_simp; rfl)) | (refine wpY_val rfl rfl (by first | exact runs0 | exact runs1 rfl) Ext.refl rfl ?_; apply Exists.intro; refine ⟨?_, ?_⟩; · (intro a w' hR; go_simp; rfl)) | (refine wpY_val rfl rfl (by first | exact runs0 | exact runs1 rfl) Ext.refl rfl ?_; apply Exists.intro; refine ⟨?_, ?_⟩; · (intro a w' hR; intro h1; (first | (have e1 : _ = _ := h1) | skip); intro h2; (first | (have e2 : _ = _ := h2) | skip); intro h3; (first | (have e3 : _ = _ := h3) | skip); go_simp; rfl)) | (refine wpY_skip rfl rfl (by first | exact .inl rfl | exact .inr rfl) ?_))
        refine wpY_val rfl rfl (by first | exact runs0 | exact runs1 rfl) Ext.refl rfl ?_; apply Exists.intro; refine ⟨?_, ?_⟩
        · intro a w' hR h1
          have e1 : _ = _ := h1
          have hl0 := hR.cell a0
          have hl1 := hR.cell a1
          have hl2 := hR.cell a2
          have hl3 := hR.cell a3
          have hl4 := hR.cell a4
          have hl5 := hR.cell a5
          go_simp
          rfl
        repeat (first | (refine wpY_move0 rfl rfl (by first | exact runs0 | exact runs1 rfl) Ext.refl rfl rfl rfl ?_; apply Exists.intro; refine ⟨?_, ?_⟩; · (go_simp; rfl)) | (refine wpY_move rfl rfl (by first | exact runs0 | exact runs1 rfl) Ext.refl rfl rfl rfl (fun _ _ _ h _ => h) ?_) | (refine wpY_val rfl rfl (by first | exact runs0 | exact runs1 rfl) Ext.refl rfl ?_; apply Exists.intro; refine ⟨?_, ?_⟩; · (intro a w' hR; intro h1; (first | (have e1 : _ = _ := h1) | skip); intro h2; (first | (have e2 : _ = _ := h2) | skip); go_simp; rfl)) | (refine wpY_val rfl rfl (by first | exact runs0 | exact runs1 rfl) Ext.refl rfl ?_; apply Exists.intro; refine ⟨?_, ?_⟩; · (intro a w' hR; intro h1; (first | (have e1 : _ = _ := h1) | skip); go_simp; rfl)) | (refine wpY_val rfl rfl (by first | exact runs0 | exact runs1 rfl) Ext.refl rfl ?_; apply Exists.intro; refine ⟨?_, ?_⟩; · (intro a w' hR; go_simp; rfl)) | (refine wpY_val rfl rfl (by first | exact runs0 | exact runs1 rfl) Ext.refl rfl ?_; apply Exists.intro; refine ⟨?_, ?_⟩; · (intro a w' hR; intro h1; (first | (have e1 : _ = _ := h1) | skip); intro h2; (first | (have e2 : _ = _ := h2) | skip); intro h3; (first | (have e3 : _ = _ := h3) | skip); go_simp; rfl)) | (refine wpY_skip rfl rfl (by first | exact .inl rfl | exact .inr rfl) ?_))
        refine wpY_val rfl rfl (by first | exact runs0 | exact runs1 rfl) Ext.refl rfl ?_; apply Exists.intro; refine ⟨?_, ?_⟩
        · intro a w' hR h1
          have e1 : _ = _ := h1
          have hl0 := hR.cell b0
          have hl1 := hR.cell b1
          have hl2 := hR.cell b2
          have hl3 := hR.cell b3
          have hl4 := hR.cell b4
          have hl5 := hR.cell b5
          go_simp
          rfl
        refine wpY_val rfl rfl (by first | exact runs0 | exact runs1 rfl) Ext.refl rfl ?_; apply Exists.intro; refine ⟨?_, ?_⟩
        · intro a w' hR h1 h2
          have e1 : _ = _ := h1
          have e2 : _ = _ := h2
          have hq9 := HNE.out w'
          go_simp
          rfl
        refine wpY_done ?_
        intro w8 hx8 hS8
        iterate 9 (rintro _ rfl)
        dsimp only [FinV]
        go_simp
        have hx8 : Ext wr w8 := hx8
        have g2 := hx8.cell g2
        have g3 := hx8.cell g3
        have b0 := hx8.cell b0
        have b1 := hx8.cell b1
        have b2 := hx8.cell b2
        have b3 := hx8.cell b3
        have HE8 := Lib.hid (HE.out.trans hx8)
        clear hx8 hS8 a0 a1 a2 a3 a4 a5 b4 b5 hext HE
        by_cases htp : (t1, t2) = (p1, p2)
        · have HQ2 := Lib.hid (show ∀ w, _ from HEQ.out)
          rw [decide_eq_true htp] at HQ2
          have h0 : SF ((((f1, f2), (t1, t2)), (sw, ad)) : Pl.Ar) = some (f1, f2) := HFX.out.trans (if_pos htp)
          have HR := Lib.hid (show ((AL.take (i + 1)).filterMap SF).length = ((AL.take i).filterMap SF).length + 1 from by rw [HTK.out, h0]; simp)
          obtain ⟨hkl, hke⟩ := List.getElem?_eq_some_iff.1 (HAT.out _ h0)
          obtain ⟨bS, oS, hAS, s0, s1⟩ := rp2 (HS.out.ext HE8.out) hkl
          replace s0 : w8.cell? ⟨bS, oS + k * 2, none⟩ = some (.int .i64 (f1, f2).1) := by rw [← hke]; exact s0
          replace s1 : w8.cell? ⟨bS, oS + k * 2 + 1, none⟩ = some (.int .i64 (f1, f2).2) := by rw [← hke]; exact s1
          simp only at s0 s1
          subst hAS
          have hkn : ¬ (SL.length : Int) ≤ (k : Int) := by omega
          have hk1 : (k : Int) < (SL.length : Int) := by omega
          have hk0 : 0 ≤ (k : Int) := by omega
          have hne9 := (show ∀ w, (binOp .neq 26 (.agg #[.int .i64 f1, .int .i64 f2]) (.agg #[.int .i64 f1, .int .i64 f2])).run Try.prog w = .ok (.bool false) w from fun w => by
            have := nePlD f1 f2 f1 f2 w
            rw [decide_eq_true rfl] at this
            exact this)
          have hkn2 : ¬ SL.length ≤ k := by omega
          have heq := HQ2.out
          clear hke h0 hkl htp
          go_wp2
          refine wp_regionY [] [] Ext Ext (fun _ => True) (by kernel_rfl) (by rfl) (by rfl) (by kernel_rfl) (by kernel_rfl) (by kernel_rfl) (fun _ _ _ x y => x.trans y) Ext.refl (fun _ _ x => x) (Ext.refl _).drew (fun _ _ x _ => x) trivial ?_
          repeat (first | (refine wpY_move0 rfl rfl (by first | exact runs0 | exact runs1 rfl) Ext.refl rfl rfl rfl ?_; apply Exists.intro; refine ⟨?_, ?_⟩; · (go_simp; rfl)) | (refine wpY_move rfl rfl (by first | exact runs0 | exact runs1 rfl) Ext.refl rfl rfl rfl (fun _ _ _ h _ => h) ?_) | (refine wpY_val rfl rfl (by first | exact runs0 | exact runs1 rfl) Ext.refl rfl ?_; apply Exists.intro; refine ⟨?_, ?_⟩; · (intro a w' hR; intro h1; (first | (have e1 : _ = _ := h1) | skip); intro h2; (first | (have e2 : _ = _ := h2) | skip); go_simp; rfl)) | (refine wpY_val rfl rfl (by first | exact runs0 | exact runs1 rfl) Ext.refl rfl ?_; apply Exists.intro; refine ⟨?_, ?_⟩; · (intro a w' hR; intro h1; (first | (have e1 : _ = _ := h1) | skip); go_simp; rfl)) | (refine wpY_val rfl rfl (by first | exact runs0 | exact runs1 rfl) Ext.refl rfl ?_; apply Exists.intro; refine ⟨?_, ?_⟩; · (intro a w' hR; go_simp; rfl)) | (refine wpY_val rfl rfl (by first | exact runs0 | exact runs1 rfl) Ext.refl rfl ?_; apply Exists.intro; refine ⟨?_, ?_⟩; · (intro a w' hR; intro h1; (first | (have e1 : _ = _ := h1) | skip); intro h2; (first | (have e2 : _ = _ := h2) | skip); intro h3; (first | (have e3 : _ = _ := h3) | skip); go_simp; rfl)) | (refine wpY_skip rfl rfl (by first | exact .inl rfl | exact .inr rfl) ?_))
          refine wpY_val rfl rfl (by first | exact runs0 | exact runs1 rfl) Ext.refl rfl ?_; apply Exists.intro; refine ⟨?_, ?_⟩
          · intro a w' hR h1
            have e1 : _ = _ := h1
            have hl0 := hR.cell b2
            have hl1 := hR.cell b3
            go_simp
            rfl
          refine wpY_val rfl rfl (by first | exact runs0 | exact runs1 rfl) Ext.refl rfl ?_; apply Exists.intro; refine ⟨?_, ?_⟩
          · intro a w' hR h1
            have e1 : _ = _ := h1
            have hl0 := hR.cell g2
            have hl1 := hR.cell g3
            go_simp
            rfl
          refine wpY_val rfl rfl (by first | exact runs0 | exact runs1 rfl) Ext.refl rfl ?_; apply Exists.intro; refine ⟨?_, ?_⟩
          · intro a w' hR h1 h2
            have e1 : _ = _ := h1
            have e2 : _ = _ := h2
            have hq9 := HQ2.out w'
            go_simp
            rfl
          refine wpY_done ?_
          intro w9 hx9 hS9
          iterate 7 (rintro _ rfl)
          dsimp only [FinV]
          go_simp
          have hx9 : Ext w8 w9 := hx9
          have b0 := hx9.cell b0
          have b1 := hx9.cell b1
          have s0 := hx9.cell s0
          have s1 := hx9.cell s1
          have HE9 := Lib.hid (HE8.out.trans hx9)
          clear hx9 hS9 g2 g3 b2 b3 heq
          go_wp2
          refine wp_regionY [] [] Ext Ext (fun _ => True) (by kernel_rfl) (by rfl) (by rfl) (by kernel_rfl) (by kernel_rfl) (by kernel_rfl) (fun _ _ _ x y => x.trans y) Ext.refl (fun _ _ x => x) (Ext.refl _).drew (fun _ _ x _ => x) trivial ?_
          repeat (first | (refine wpY_move0 rfl rfl (by first | exact runs0 | exact runs1 rfl) Ext.refl rfl rfl rfl ?_; apply Exists.intro; refine ⟨?_, ?_⟩; · (go_simp; rfl)) | (refine wpY_move rfl rfl (by first | exact runs0 | exact runs1 rfl) Ext.refl rfl rfl rfl (fun _ _ _ h _ => h) ?_) | (refine wpY_val rfl rfl (by first | exact runs0 | exact runs1 rfl) Ext.refl rfl ?_; apply Exists.intro; refine ⟨?_, ?_⟩; · (intro a w' hR; intro h1; (first | (have e1 : _ = _ := h1) | skip); intro h2; (first | (have e2 : _ = _ := h2) | skip); go_simp; rfl)) | (refine wpY_val rfl rfl (by first | exact runs0 | exact runs1 rfl) Ext.refl rfl ?_; apply Exists.intro; refine ⟨?_, ?_⟩; · (intro a w' hR; intro h1; (first | (have e1 : _ = _ := h1) | skip); go_simp; rfl)) | (refine wpY_val rfl rfl (by first | exact runs0 | exact runs1 rfl) Ext.refl rfl ?_; apply Exists.intro; refine ⟨?_, ?_⟩; · (intro a w' hR; go_simp; rfl)) | (refine wpY_val rfl rfl (by first | exact runs0 | exact runs1 rfl) Ext.refl rfl ?_; apply Exists.intro; refine ⟨?_, ?_⟩; · (intro a w' hR; intro h1; (first | (have e1 : _ = _ := h1) | skip); intro h2; (first | (have e2 : _ = _ := h2) | skip); intro h3; (first | (have e3 : _ = _ := h3) | skip); go_simp; rfl)) | (refine wpY_skip rfl rfl (by first | exact .inl rfl | exact .inr rfl) ?_))
          refine wpY_val rfl rfl (by first | exact runs0 | exact runs1 rfl) Ext.refl rfl ?_; apply Exists.intro; refine ⟨?_, ?_⟩
          · intro a w' hR h1
            have e1 : _ = _ := h1
            have hl0 := hR.cell s0
            have hl1 := hR.cell s1
            go_simp
            rfl
          repeat (first | (refine wpY_move0 rfl rfl (by first | exact runs0 | exact runs1 rfl) Ext.refl rfl rfl rfl ?_; apply Exists.intro; refine ⟨?_, ?_⟩; · (go_simp; rfl)) | (refine wpY_move rfl rfl (by first | exact runs0 | exact runs1 rfl) Ext.refl rfl rfl rfl (fun _ _ _ h _ => h) ?_) | (refine wpY_val rfl rfl (by first | exact runs0 | exact runs1 rfl) Ext.refl rfl ?_; apply Exists.intro; refine ⟨?_, ?_⟩; · (intro a w' hR; intro h1; (first | (have e1 : _ = _ := h1) | skip); intro h2; (first | (have e2 : _ = _ := h2) | skip); go_simp; rfl)) | (refine wpY_val rfl rfl (by first | exact runs0 | exact runs1 rfl) Ext.refl rfl ?_; apply Exists.intro; refine ⟨?_, ?_⟩; · (intro a w' hR; intro h1; (first | (have e1 : _ = _ := h1) | skip); go_simp; rfl)) | (refine wpY_val rfl rfl (by first | exact runs0 | exact runs1 rfl) Ext.refl rfl ?_; apply Exists.intro; refine ⟨?_, ?_⟩; · (intro a w' hR; go_simp; rfl)) | (refine wpY_val rfl rfl (by first | exact runs0 | exact runs1 rfl) Ext.refl rfl ?_; apply Exists.intro; refine ⟨?_, ?_⟩; · (intro a w' hR; intro h1; (first | (have e1 : _ = _ := h1) | skip); intro h2; (first | (have e2 : _ = _ := h2) | skip); intro h3; (first | (have e3 : _ = _ := h3) | skip); go_simp; rfl)) | (refine wpY_skip rfl rfl (by first | exact .inl rfl | exact .inr rfl) ?_))
          refine wpY_val rfl rfl (by first | exact runs0 | exact runs1 rfl) Ext.refl rfl ?_; apply Exists.intro; refine ⟨?_, ?_⟩
          · intro a w' hR h1
            have e1 : _ = _ := h1
            have hl0 := hR.cell b0
            have hl1 := hR.cell b1
            go_simp
            rfl
          refine wpY_val rfl rfl (by first | exact runs0 | exact runs1 rfl) Ext.refl rfl ?_; apply Exists.intro; refine ⟨?_, ?_⟩
          · intro a w' hR h1 h2
            have e1 : _ = _ := h1
            have e2 : _ = _ := h2
            have hq9 := hne9 w'
            go_simp
            rfl
          repeat (first | (refine wpY_move0 rfl rfl (by first | exact runs0 | exact runs1 rfl) Ext.refl rfl rfl rfl ?_; apply Exists.intro; refine ⟨?_, ?_⟩; · (go_simp; rfl)) | (refine wpY_move rfl rfl (by first | exact runs0 | exact runs1 rfl) Ext.refl rfl rfl rfl (fun _ _ _ h _ => h) ?_) | (refine wpY_val rfl rfl (by first | exact runs0 | exact runs1 rfl) Ext.refl rfl ?_; apply Exists.intro; refine ⟨?_, ?_⟩; · (intro a w' hR; intro h1; (first | (have e1 : _ = _ := h1) | skip); intro h2; (first | (have e2 : _ = _ := h2) | skip); go_simp; rfl)) | (refine wpY_val rfl rfl (by first | exact runs0 | exact runs1 rfl) Ext.refl rfl ?_; apply Exists.intro; refine ⟨?_, ?_⟩; · (intro a w' hR; intro h1; (first | (have e1 : _ = _ := h1) | skip); go_simp; rfl)) | (refine wpY_val rfl rfl (by first | exact runs0 | exact runs1 rfl) Ext.refl rfl ?_; apply Exists.intro; refine ⟨?_, ?_⟩; · (intro a w' hR; go_simp; rfl)) | (refine wpY_val rfl rfl (by first | exact runs0 | exact runs1 rfl) Ext.refl rfl ?_; apply Exists.intro; refine ⟨?_, ?_⟩; · (intro a w' hR; intro h1; (first | (have e1 : _ = _ := h1) | skip); intro h2; (first | (have e2 : _ = _ := h2) | skip); intro h3; (first | (have e3 : _ = _ := h3) | skip); go_simp; rfl)) | (refine wpY_skip rfl rfl (by first | exact .inl rfl | exact .inr rfl) ?_))
          refine wpY_done ?_
          intro wA hxA hSA
          iterate 16 (rintro _ rfl)
          dsimp only [FinV]
          go_simp
          have hxA : Ext w9 wA := hxA
          have HEA := Lib.hid (HE9.out.trans hxA)
          clear hxA hSA b0 b1 s0 s1
          go_wp2
          exact ⟨⟨i + 1, HLT.out, by go_num, by rw [HR.out, HKE.out]; go_num, HEA.out⟩, by have := HLT.out; simp [intOf]; omega⟩
        · have HQ2 := Lib.hid (show ∀ w, _ from HEQ.out)
          rw [decide_eq_false htp] at HQ2
          have h0 : SF ((((f1, f2), (t1, t2)), (sw, ad)) : Pl.Ar) = none := HFX.out.trans (if_neg htp)
          have HR := Lib.hid (show ((AL.take (i + 1)).filterMap SF).length = ((AL.take i).filterMap SF).length from by rw [HTK.out, h0]; simp)
          have heq := HQ2.out
          clear h0 htp
          go_wp2
          refine wp_regionY [] [] Ext Ext (fun _ => True) (by kernel_rfl) (by rfl) (by rfl) (by kernel_rfl) (by kernel_rfl) (by kernel_rfl) (fun _ _ _ x y => x.trans y) Ext.refl (fun _ _ x => x) (Ext.refl _).drew (fun _ _ x _ => x) trivial ?_
          repeat (first | (refine wpY_move0 rfl rfl (by first | exact runs0 | exact runs1 rfl) Ext.refl rfl rfl rfl ?_; apply Exists.intro; refine ⟨?_, ?_⟩; · (go_simp; rfl)) | (refine wpY_move rfl rfl (by first | exact runs0 | exact runs1 rfl) Ext.refl rfl rfl rfl (fun _ _ _ h _ => h) ?_) | (refine wpY_val rfl rfl (by first | exact runs0 | exact runs1 rfl) Ext.refl rfl ?_; apply Exists.intro; refine ⟨?_, ?_⟩; · (intro a w' hR; intro h1; (first | (have e1 : _ = _ := h1) | skip); intro h2; (first | (have e2 : _ = _ := h2) | skip); go_simp; rfl)) | (refine wpY_val rfl rfl (by first | exact runs0 | exact runs1 rfl) Ext.refl rfl ?_; apply Exists.intro; refine ⟨?_, ?_⟩; · (intro a w' hR; intro h1; (first | (have e1 : _ = _ := h1) | skip); go_simp; rfl)) | (refine wpY_val rfl rfl (by first | exact runs0 | exact runs1 rfl) Ext.refl rfl ?_; apply Exists.intro; refine ⟨?_, ?_⟩; · (intro a w' hR; go_simp; rfl)) | (refine wpY_val rfl rfl (by first | exact runs0 | exact runs1 rfl) Ext.refl rfl ?_; apply Exists.intro; refine ⟨?_, ?_⟩; · (intro a w' hR; intro h1; (first | (have e1 : _ = _ := h1) | skip); intro h2; (first | (have e2 : _ = _ := h2) | skip); intro h3; (first | (have e3 : _ = _ := h3) | skip); go_simp; rfl)) | (refine wpY_skip rfl rfl (by first | exact .inl rfl | exact .inr rfl) ?_))
          refine wpY_val rfl rfl (by first | exact runs0 | exact runs1 rfl) Ext.refl rfl ?_; apply Exists.intro; refine ⟨?_, ?_⟩
          · intro a w' hR h1
            have e1 : _ = _ := h1
            have hl0 := hR.cell b2
            have hl1 := hR.cell b3
            go_simp
            rfl
          refine wpY_val rfl rfl (by first | exact runs0 | exact runs1 rfl) Ext.refl rfl ?_; apply Exists.intro; refine ⟨?_, ?_⟩
          · intro a w' hR h1
            have e1 : _ = _ := h1
            have hl0 := hR.cell g2
            have hl1 := hR.cell g3
            go_simp
            rfl
          refine wpY_val rfl rfl (by first | exact runs0 | exact runs1 rfl) Ext.refl rfl ?_; apply Exists.intro; refine ⟨?_, ?_⟩
          · intro a w' hR h1 h2
            have e1 : _ = _ := h1
            have e2 : _ = _ := h2
            have hq9 := HQ2.out w'
            go_simp
            rfl
          refine wpY_done ?_
          intro w9 hx9 hS9
          iterate 7 (rintro _ rfl)
          dsimp only [FinV]
          go_simp
          have hx9 : Ext w8 w9 := hx9
          have HE9 := Lib.hid (HE8.out.trans hx9)
          clear hx9 hS9 g2 g3 b0 b1 b2 b3 heq
          go_wp2
          exact ⟨⟨i + 1, HLT.out, by go_num, by rw [HR.out, HKE.out], HE9.out⟩, by have := HLT.out; simp [intOf]; omega⟩
      · obtain rfl : i = AL.length := by omega
        have r1 : ¬ (AL.length : Int) < (AL.length : Int) := by omega
        rw [List.take_length, ← HSL.out]
        rename World => w13
        have HX := Lib.hid (HX.out.trans hext)
        have HB0 := Lib.hid (HB0.out.ext hext)
        have HB1 := Lib.hid (HB1.out.ext hext)
        have Hx := Lib.hid (Hx.out.ext hext)
        have HA := Lib.hid (HA.out.ext hext)
        have HS := Lib.hid (HS.out.ext hext)
        have HI := Lib.hid (HI.out.ext hext)
        have HB := Lib.hid (HB.out.ext hext)
        clear hext
        have c00 : w13.cell? ⟨bn, 0, none⟩ = some (.slice A l.length c) := HB0.out.cell 0
        have c01 : w13.cell? ⟨bn, 1, none⟩ = some (.int .i64 out) := HB0.out.cell 1
        have c10 : w13.cell? ⟨bn + 1, 0, none⟩ = some (.int .i64 p1) := HB1.out.cell 0
        have c11 : w13.cell? ⟨bn + 1, 1, none⟩ = some (.int .i64 p2) := HB1.out.cell 1
        have x0 : w13.cell? ⟨bx, 0, none⟩ = some (.int .i64 la1) := Hx.out.cell 0
        have x1 : w13.cell? ⟨bx, 1, none⟩ = some (.int .i64 la2) := Hx.out.cell 1
        clear hlt hi
        have hns : ((SL.length : Int) != (SL.length : Int)) = false := by simp
        go_wp2_with fail
        refine (HLO.out (by first | rfl | trivial) w13 HX.out).mono ?_
        rintro e w14 ⟨rfl, he⟩
        clear c00 c01 c10 c11 x0 x1
        have HX := Lib.hid (HX.out.trans he)
        have HB0 := Lib.hid (HB0.out.ext he)
        have HB1 := Lib.hid (HB1.out.ext he)
        have Hx := Lib.hid (Hx.out.ext he)
        have HA := Lib.hid (HA.out.ext he)
        have HS := Lib.hid (HS.out.ext he)
        have HI := Lib.hid (HI.out.ext he)
        have HB := Lib.hid (HB.out.ext he)
        clear he
        by_cases hl0 : loopAt l < 0
        · have hIL := HIZ.out (by first | rfl | trivial) (by omega)
          subst hIL
          have hlx : lab = false := by
            have := HLL.out
            unfold lastO at this
            simp at this
            first | exact this.2 | exact this.2.2.symm | exact this.2.symm
          subst hlx
          have hl1 : ¬ 0 ≤ loopAt l := by omega
          generalize loopAt l = la at *
          generalize SL.length = sll at *
          clear HLL HIA HIZ HS HA HB HI
          go_wp2
          go_ret
          exact ⟨rfl, HX.out⟩
        · obtain ⟨n, hn, hln, hlen, hb1, hb2, hi0, hi1, hgl⟩ := HIA.out (by first | rfl | trivial) (by omega)
          have hlx := HLL.out
          unfold lastO at hlx
          rw [hgl] at hlx
          have hl3 : la1 = (n : Int) ∧ la2 = ((l[n].body.length - 1 : Nat) : Int) ∧ lab = true := by
            simp at hlx
            exact ⟨hlx.1.1.symm, hlx.1.2.symm, by simpa using hlx.2.symm⟩
          obtain ⟨hl4, hl5, hl6⟩ := hl3
          subst hl4 hl5 hl6
          obtain ⟨bG, oG, u7, b7, hAA, e0, e1, e2, e3, e4, e5, hu7, hb7⟩ := (HV.out.ext HX.out).at_ hn
          obtain ⟨Ab, cb, rfl⟩ := hb7.form
          obtain ⟨bm, hbm⟩ : ∃ bm, l[n].body.length = bm + 1 := ⟨l[n].body.length - 1, by omega⟩
          have hbm1 : l[n].body.length - 1 = bm := by omega
          obtain ⟨bI, oI, hAI, i0, i1⟩ := rp2 (HI.out.ext (Ext.refl _)) (k := 0) (by omega)
          obtain ⟨bI', oI', hAI', j0, j1⟩ := rp2 (HI.out.ext (Ext.refl _)) (k := bm) (by omega)
          rw [hAI] at hAI'
          injection hAI' with hAI'
          injection hAI' with q1 q2 _
          subst q1 q2
          have hz0 : IL[0]'(by omega) = ((n : Int), 0) := hi0 (by omega)
          have hz1 : IL[bm]'(by omega) = ((n : Int), (bm : Int)) := by have := hi1 (by omega); simp only [hbm1] at this; exact this
          rw [hz0] at i0 i1
          rw [hz1] at j0 j1
          simp only [Nat.zero_mul, Nat.add_zero] at i0 i1
          simp only at j0 j1
          rw [hbm1] at Hx
          have hx := HX.out
          have hgc := HB0.out.cell 0
          have hnl : (n : Int) < (l.length : Int) := by omega
          have hn0 : 0 ≤ (n : Int) := by omega
          have hnn : ¬ (n : Int) < 0 := by omega
          have hil : (IL.length : Int) = ((bm + 1 : Nat) : Int) := by omega
          rw [hlen, hln]
          simp only [hbm, Nat.add_sub_cancel]
          rw [hbm] at hb2
          have hbm9 : bm ≤ 31 := by omega
          generalize SL.length = sll at *
          have hgx := HB0.out.cell 0
          have hxx0 := Hx.out.cell 0
          have hxx1 := Hx.out.cell 1
          clear HLL HIA HIZ HS HA HB HI hgl hi0 hi1 hz0 hz1 hlen hb1 hlx hl0 hb7 hu7 Hx hbm1
          generalize l[n].body = body7 at *
          rw [hbm] at e5
          subst hAA hAI
          have u1 : (((bm + 1 : Nat) : Int) - 1) = (bm : Int) := by omega
          have u2 : IntKind.i64.wrap (bm : Int) = (bm : Int) := IntWalk.i64_in _ (by omega)
          have u3 : (bm : Int) < ((bm + 1 : Nat) : Int) := by omega
          have u4 : (0 : Int) < ((bm + 1 : Nat) : Int) := by omega
          have u5 : 0 ≤ (bm : Int) := by omega
          obtain ⟨bl, hbl⟩ : ∃ bl, bl = bm + 1 := ⟨_, rfl⟩
          have u6 : 0 < bl := by omega
          have u7 : bm < bl := by omega
          rw [← hbl] at u1 u3 u4 e5 ⊢
          clear hbl
          have HE1 := Lib.hid (show ∀ w, (binOp .eql 26 (.agg #[.int .i64 (n : Int), .int .i64 (bm : Int)]) (.agg #[.int .i64 (n : Int), .int .i64 (bm : Int)])).run Try.prog w = .ok (.bool true) w from fun w => by rw [eqPlD, decide_eq_true rfl])
          have HE2 := Lib.hid (show ∀ w, (binOp .eql 26 (.agg #[.int .i64 (n : Int), .int .i64 0]) (.agg #[.int .i64 (n : Int), .int .i64 0])).run Try.prog w = .ok (.bool true) w from fun w => by rw [eqPlD, decide_eq_true rfl])
          have g0 : w14.cell? ⟨bn, 0, none⟩ = some (.slice (some ⟨bG, oG, none⟩) l.length c) := HB0.out.cell 0
          have x0 : w14.cell? ⟨bx, 0, none⟩ = some (.int .i64 (n : Int)) := hxx0
          have x1 : w14.cell? ⟨bx, 1, none⟩ = some (.int .i64 (bm : Int)) := hxx1
          clear hb2 hln e0 e2 e3 e4 hgc HB0 HB1 HV hbm hil hgx hxx0 hxx1
          go_wp2
          refine wp_regionY [] [] Ext Ext (fun _ => True) (by kernel_rfl) (by rfl) (by rfl) (by kernel_rfl) (by kernel_rfl) (by kernel_rfl) (fun _ _ _ x y => x.trans y) Ext.refl (fun _ _ x => x) (Ext.refl _).drew (fun _ _ x _ => x) trivial ?_
          refine wpY_val rfl rfl (by first | exact runs0 | exact runs1 rfl) Ext.refl rfl ?_; apply Exists.intro; refine ⟨?_, ?_⟩
          · intro a w' hR h1
            have e1 : _ = _ := h1
            have hl0 := hR.cell x0
            have hl1 := hR.cell x1
            go_simp
            rfl
          (first | (refine wpY_move0 rfl rfl (by first | exact runs0 | exact runs1 rfl) Ext.refl rfl rfl rfl ?_; apply Exists.intro; refine ⟨?_, ?_⟩; · (go_simp; rfl)) | (refine wpY_move rfl rfl (by first | exact runs0 | exact runs1 rfl) Ext.refl rfl rfl rfl (fun _ _ _ h _ => h) ?_) | (refine wpY_val rfl rfl (by first | exact runs0 | exact runs1 rfl) Ext.refl rfl ?_; apply Exists.intro; refine ⟨?_, ?_⟩; · (intro a w' hR; intro h1; (first | (have e1 : _ = _ := h1) | skip); intro h2; (first | (have e2 : _ = _ := h2) | skip); go_simp; rfl)) | (refine wpY_val rfl rfl (by first | exact runs0 | exact runs1 rfl) Ext.refl rfl ?_; apply Exists.intro; refine ⟨?_, ?_⟩; · (intro a w' hR; intro h1; (first | (have e1 : _ = _ := h1) | skip); go_simp; rfl)) | (refine wpY_val rfl rfl (by first | exact runs0 | exact runs1 rfl) Ext.refl rfl ?_; apply Exists.intro; refine ⟨?_, ?_⟩; · (intro a w' hR; go_simp; rfl)) | (refine wpY_val rfl rfl (by first | exact runs0 | exact runs1 rfl) Ext.refl rfl ?_; apply Exists.intro; refine ⟨?_, ?_⟩; · (intro a w' hR; intro h1; (first | (have e1 : _ = _ := h1) | skip); intro h2; (first | (have e2 : _ = _ := h2) | skip); intro h3; (first | (have e3 : _ = _ := h3) | skip); go_simp; rfl)) | (refine wpY_skip rfl rfl (by first | exact .inl rfl | exact .inr rfl) ?_))
          (first | (refine wpY_move0 rfl rfl (by first | exact runs0 | exact runs1 rfl) Ext.refl rfl rfl rfl ?_; apply Exists.intro; refine ⟨?_, ?_⟩; · (go_simp; rfl)) | (refine wpY_move rfl rfl (by first | exact runs0 | exact runs1 rfl) Ext.refl rfl rfl rfl (fun _ _ _ h _ => h) ?_) | (refine wpY_val rfl rfl (by first | exact runs0 | exact runs1 rfl) Ext.refl rfl ?_; apply Exists.intro; refine ⟨?_, ?_⟩; · (intro a w' hR; intro h1; (first | (have e1 : _ = _ := h1) | skip); intro h2; (first | (have e2 : _ = _ := h2) | skip); go_simp; rfl)) | (refine wpY_val rfl rfl (by first | exact runs0 | exact runs1 rfl) Ext.refl rfl ?_; apply Exists.intro; refine ⟨?_, ?_⟩; · (intro a w' hR; intro h1; (first | (have e1 : _ = _ := h1) | skip); go_simp; rfl)) | (refine wpY_val rfl rfl (by first | exact runs0 | exact runs1 rfl) Ext.refl rfl ?_; apply Exists.intro; refine ⟨?_, ?_⟩; · (intro a w' hR; go_simp; rfl)) | (refine wpY_val rfl rfl (by first | exact runs0 | exact runs1 rfl) Ext.refl rfl ?_; apply Exists.intro; refine ⟨?_, ?_⟩; · (intro a w' hR; intro h1; (first | (have e1 : _ = _ := h1) | skip); intro h2; (first | (have e2 : _ = _ := h2) | skip); intro h3; (first | (have e3 : _ = _ := h3) | skip); go_simp; rfl)) | (refine wpY_skip rfl rfl (by first | exact .inl rfl | exact .inr rfl) ?_))
          refine wpY_val rfl rfl (by first | exact runs0 | exact runs1 rfl) Ext.refl rfl ?_; apply Exists.intro; refine ⟨?_, ?_⟩
          · intro a w' hR h1
            have e1 : _ = _ := h1
            go_simp
            rfl
          refine wpY_val rfl rfl (by first | exact runs0 | exact runs1 rfl) Ext.refl rfl ?_; apply Exists.intro; refine ⟨?_, ?_⟩
          · intro a w' hR h1 h2
            have e1 : _ = _ := h1
            have e2 : _ = _ := h2
            have q1 := e1; rw [Array.getD_eq_getD_getElem?] at q1
            have q2 := e2; rw [Array.getD_eq_getD_getElem?] at q2
            go_simp
            rfl
          refine wpY_val rfl rfl (by first | exact runs0 | exact runs1 rfl) Ext.refl rfl ?_; apply Exists.intro; refine ⟨?_, ?_⟩
          · intro a w' hR h1 h2
            have e1 : _ = _ := h1
            have e2 : _ = _ := h2
            have hq9 := HE1.out w'
            go_simp
            rfl
          repeat (first | (refine wpY_move0 rfl rfl (by first | exact runs0 | exact runs1 rfl) Ext.refl rfl rfl rfl ?_; apply Exists.intro; refine ⟨?_, ?_⟩; · (go_simp; rfl)) | (refine wpY_move rfl rfl (by first | exact runs0 | exact runs1 rfl) Ext.refl rfl rfl rfl (fun _ _ _ h _ => h) ?_) | (refine wpY_val rfl rfl (by first | exact runs0 | exact runs1 rfl) Ext.refl rfl ?_; apply Exists.intro; refine ⟨?_, ?_⟩; · (intro a w' hR; intro h1; (first | (have e1 : _ = _ := h1) | skip); intro h2; (first | (have e2 : _ = _ := h2) | skip); go_simp; rfl)) | (refine wpY_val rfl rfl (by first | exact runs0 | exact runs1 rfl) Ext.refl rfl ?_; apply Exists.intro; refine ⟨?_, ?_⟩; · (intro a w' hR; intro h1; (first | (have e1 : _ = _ := h1) | skip); go_simp; rfl)) | (refine wpY_val rfl rfl (by first | exact runs0 | exact runs1 rfl) Ext.refl rfl ?_; apply Exists.intro; refine ⟨?_, ?_⟩; · (intro a w' hR; go_simp; rfl)) | (refine wpY_val rfl rfl (by first | exact runs0 | exact runs1 rfl) Ext.refl rfl ?_; apply Exists.intro; refine ⟨?_, ?_⟩; · (intro a w' hR; intro h1; (first | (have e1 : _ = _ := h1) | skip); intro h2; (first | (have e2 : _ = _ := h2) | skip); intro h3; (first | (have e3 : _ = _ := h3) | skip); go_simp; rfl)) | (refine wpY_skip rfl rfl (by first | exact .inl rfl | exact .inr rfl) ?_))
          refine wpY_val rfl rfl (by first | exact runs0 | exact runs1 rfl) Ext.refl rfl ?_; apply Exists.intro; refine ⟨?_, ?_⟩
          · intro a w' hR h1
            have e1 : _ = _ := h1
            have hl0 := hR.cell i0
            have hl1 := hR.cell i1
            go_simp
            rfl
          (first | (refine wpY_move0 rfl rfl (by first | exact runs0 | exact runs1 rfl) Ext.refl rfl rfl rfl ?_; apply Exists.intro; refine ⟨?_, ?_⟩; · (go_simp; rfl)) | (refine wpY_move rfl rfl (by first | exact runs0 | exact runs1 rfl) Ext.refl rfl rfl rfl (fun _ _ _ h _ => h) ?_) | (refine wpY_val rfl rfl (by first | exact runs0 | exact runs1 rfl) Ext.refl rfl ?_; apply Exists.intro; refine ⟨?_, ?_⟩; · (intro a w' hR; intro h1; (first | (have e1 : _ = _ := h1) | skip); intro h2; (first | (have e2 : _ = _ := h2) | skip); go_simp; rfl)) | (refine wpY_val rfl rfl (by first | exact runs0 | exact runs1 rfl) Ext.refl rfl ?_; apply Exists.intro; refine ⟨?_, ?_⟩; · (intro a w' hR; intro h1; (first | (have e1 : _ = _ := h1) | skip); go_simp; rfl)) | (refine wpY_val rfl rfl (by first | exact runs0 | exact runs1 rfl) Ext.refl rfl ?_; apply Exists.intro; refine ⟨?_, ?_⟩; · (intro a w' hR; go_simp; rfl)) | (refine wpY_val rfl rfl (by first | exact runs0 | exact runs1 rfl) Ext.refl rfl ?_; apply Exists.intro; refine ⟨?_, ?_⟩; · (intro a w' hR; intro h1; (first | (have e1 : _ = _ := h1) | skip); intro h2; (first | (have e2 : _ = _ := h2) | skip); intro h3; (first | (have e3 : _ = _ := h3) | skip); go_simp; rfl)) | (refine wpY_skip rfl rfl (by first | exact .inl rfl | exact .inr rfl) ?_))
          refine wpY_val rfl rfl (by first | exact runs0 | exact runs1 rfl) Ext.refl rfl ?_; apply Exists.intro; refine ⟨?_, ?_⟩
          · intro a w' hR h1
            have e1 : _ = _ := h1
            have q1 := e1; rw [Array.getD_eq_getD_getElem?] at q1
            go_simp
            rfl
          refine wpY_val rfl rfl (by first | exact runs0 | exact runs1 rfl) Ext.refl rfl ?_; apply Exists.intro; refine ⟨?_, ?_⟩
          · intro a w' hR h1 h2
            have e1 : _ = _ := h1
            have e2 : _ = _ := h2
            have hq9 := HE2.out w'
            go_simp
            rfl
          repeat (first | (refine wpY_move0 rfl rfl (by first | exact runs0 | exact runs1 rfl) Ext.refl rfl rfl rfl ?_; apply Exists.intro; refine ⟨?_, ?_⟩; · (go_simp; rfl)) | (refine wpY_move rfl rfl (by first | exact runs0 | exact runs1 rfl) Ext.refl rfl rfl rfl (fun _ _ _ h _ => h) ?_) | (refine wpY_val rfl rfl (by first | exact runs0 | exact runs1 rfl) Ext.refl rfl ?_; apply Exists.intro; refine ⟨?_, ?_⟩; · (intro a w' hR; intro h1; (first | (have e1 : _ = _ := h1) | skip); intro h2; (first | (have e2 : _ = _ := h2) | skip); go_simp; rfl)) | (refine wpY_val rfl rfl (by first | exact runs0 | exact runs1 rfl) Ext.refl rfl ?_; apply Exists.intro; refine ⟨?_, ?_⟩; · (intro a w' hR; intro h1; (first | (have e1 : _ = _ := h1) | skip); go_simp; rfl)) | (refine wpY_val rfl rfl (by first | exact runs0 | exact runs1 rfl) Ext.refl rfl ?_; apply Exists.intro; refine ⟨?_, ?_⟩; · (intro a w' hR; go_simp; rfl)) | (refine wpY_val rfl rfl (by first | exact runs0 | exact runs1 rfl) Ext.refl rfl ?_; apply Exists.intro; refine ⟨?_, ?_⟩; · (intro a w' hR; intro h1; (first | (have e1 : _ = _ := h1) | skip); intro h2; (first | (have e2 : _ = _ := h2) | skip); intro h3; (first | (have e3 : _ = _ := h3) | skip); go_simp; rfl)) | (refine wpY_skip rfl rfl (by first | exact .inl rfl | exact .inr rfl) ?_))
          refine wpY_val rfl rfl (by first | exact runs0 | exact runs1 rfl) Ext.refl rfl ?_; apply Exists.intro; refine ⟨?_, ?_⟩
          · intro a w' hR h1
            have e1 : _ = _ := h1
            have hl0 := hR.cell j0
            have hl1 := hR.cell j1
            go_simp
            rfl
          refine wpY_val rfl rfl (by first | exact runs0 | exact runs1 rfl) Ext.refl rfl ?_; apply Exists.intro; refine ⟨?_, ?_⟩
          · intro a w' hR h1
            have e1 : _ = _ := h1
            have hl0 := hR.cell x0
            have hl1 := hR.cell x1
            go_simp
            rfl
          refine wpY_val rfl rfl (by first | exact runs0 | exact runs1 rfl) Ext.refl rfl ?_; apply Exists.intro; refine ⟨?_, ?_⟩
          · intro a w' hR h1 h2
            have e1 : _ = _ := h1
            have e2 : _ = _ := h2
            have hq9 := HE1.out w'
            go_simp
            rfl
          repeat (first | (refine wpY_move0 rfl rfl (by first | exact runs0 | exact runs1 rfl) Ext.refl rfl rfl rfl ?_; apply Exists.intro; refine ⟨?_, ?_⟩; · (go_simp; rfl)) | (refine wpY_move rfl rfl (by first | exact runs0 | exact runs1 rfl) Ext.refl rfl rfl rfl (fun _ _ _ h _ => h) ?_) | (refine wpY_val rfl rfl (by first | exact runs0 | exact runs1 rfl) Ext.refl rfl ?_; apply Exists.intro; refine ⟨?_, ?_⟩; · (intro a w' hR; intro h1; (first | (have e1 : _ = _ := h1) | skip); intro h2; (first | (have e2 : _ = _ := h2) | skip); go_simp; rfl)) | (refine wpY_val rfl rfl (by first | exact runs0 | exact runs1 rfl) Ext.refl rfl ?_; apply Exists.intro; refine ⟨?_, ?_⟩; · (intro a w' hR; intro h1; (first | (have e1 : _ = _ := h1) | skip); go_simp; rfl)) | (refine wpY_val rfl rfl (by first | exact runs0 | exact runs1 rfl) Ext.refl rfl ?_; apply Exists.intro; refine ⟨?_, ?_⟩; · (intro a w' hR; go_simp; rfl)) | (refine wpY_val rfl rfl (by first | exact runs0 | exact runs1 rfl) Ext.refl rfl ?_; apply Exists.intro; refine ⟨?_, ?_⟩; · (intro a w' hR; intro h1; (first | (have e1 : _ = _ := h1) | skip); intro h2; (first | (have e2 : _ = _ := h2) | skip); intro h3; (first | (have e3 : _ = _ := h3) | skip); go_simp; rfl)) | (refine wpY_skip rfl rfl (by first | exact .inl rfl | exact .inr rfl) ?_))
          refine wpY_done ?_
          intro wz hz hS
          iterate 30 (rintro _ rfl)
          dsimp only [FinV]
          go_simp
          have hz : Ext w14 wz := hz
          go_wp2
          go_ret
          exact ⟨rfl, HX.out.trans hz⟩
theorem planArcs_law (w : World) (v : Value) (x : GArg) (hv : v = gAg x.1.1 x.2.2 ∧ NodesR x.1.2 w x.1.1 x.2.1) (v1 : Value) (p : Pl) (h1 : v1 = plV p) :
    Calls Try.prog 3 #[v, v1] w fun e w' => e = .returned (.bool true) ∧ Ext w w' := by
  rw [hv.1, h1]
  exact planArcs_any x.1.2 x.1.1 x.2 p w hv.2
end Go.Proofs.Ytcacicgkebcdkaa
