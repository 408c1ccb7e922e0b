/-
  LaPrint, packed: what the claim needs of them.
-/
import Derived.Test.YtpmgmiiidfconaaGreatDoorPz38
import Derived.Test.YtpmgmiiidfconaaGreatDoorPz18
set_option linter.unusedVariables false
set_option linter.unusedSimpArgs false
namespace Go.Proofs.YtpmgmiiidfconaaGreatDoor
open Go.RowKit Go.Ox Go.Ox.Gr Go.Ox.Sc Go.Ox.La Go.Shelf
def configW : W := [99, 111, 110, 102, 105, 103]
def outW : W := [111, 117, 116]
def epochW : W := [101, 112, 111, 99, 104]
def cfgLs (c : Int × Int × Int × Int) : List W := configW :: (cfgN c).map fun n => Lib.decDigits n.toNat
def epLs (e : List Bag) : List W := epochW :: e.map fun b => joinL (bagW b)
/-- the lines of a script -/
def linesS (s : Sc) : List W := [joinL (cfgLs s.cfg)] ++ outLs s.g.1 0 ++ [joinL [outW, nameL s.g.2.toNat false]] ++ s.ins.flatMap epLs ++ s.acts.map actS
structure PrOk (s : Sc) : Prop where
  ok : scOk s = true
  sm : ScSm s
  ns : NsOk s.g.1
  bag : ∀ e ∈ s.ins, ∀ b ∈ e, b.length ≤ 1000 ∧ (Rec.srt b).length ≤ 1000 ∧ ∀ x ∈ Rec.srt b, (0 ≤ x.1 ∧ x.1 < 9223372036854775808) ∧ 0 ≤ x.2 ∧ x.2 < 9223372036854775808
  len : (linesT (linesS s)).length ≤ 65536
theorem epLs_s (l : List (List Bag)) {k : Nat} (h : k < l.length) : (l.take (k + 1)).flatMap epLs = (l.take k).flatMap epLs ++ epLs l[k] := by
  rw [List.take_succ_eq_append_getElem h, List.flatMap_append]; simp
theorem bags_s (l : List Bag) {k : Nat} (h : k < l.length) : (l.take (k + 1)).map (fun b => joinL (bagW b)) = (l.take k).map (fun b => joinL (bagW b)) ++ [joinL (bagW l[k])] := by
  rw [List.take_succ_eq_append_getElem h, List.map_append]; rfl
theorem acts_s (l : List Sc.Act) {k : Nat} (h : k < l.length) : (l.take (k + 1)).map actS = (l.take k).map actS ++ [actS l[k]] := by
  rw [List.take_succ_eq_append_getElem h, List.map_append]; rfl
theorem inR_b29 {n m : Int} (h : inR n m = true) : 0 ≤ n ∧ n ≤ m := by
  unfold inR at h
  rw [Bool.and_eq_true, decide_eq_true_eq, decide_eq_true_eq] at h
  exact h
theorem WB.new (w : World) : WB TW TB w.heap.size w.heap.size (w.alloc (.cells #[.pointer none, .slice none 0 0] 78)) [] :=
  ⟨Nat.le_refl _, _, _, .inl rfl, Blk.new _ _ _, OB.nilO _ _ _, by simp [Value.ownBlock]⟩
attribute [local irreducible] RE OE OB GlT NodesR RP OP EpR InsR ActsR
set_option maxRecDepth 100000 in
set_option maxHeartbeats 32000000 in
theorem lPrint_any (d : Nat) (s : Sc) (nv iv av : Value) (w : World) (h : ScR d w nv iv av s) (hp : PrOk s) (ht : Wtb w) :
    Calls Tryz.prog 12 #[scAg s nv iv av] w fun e w' => e = .returned (.tuple #[strV (linesT (linesS s)), .int .i64 0]) ∧ Ext w w' := by
  obtain ⟨hok, hsm, hns, hbag, hlen⟩ := hp
  obtain ⟨g1, g2, g3, g4, g5, g6⟩ := scOk_parts hok
  have hC := sCheck_any d s nv iv av
  have hsc : scE s = 0 := by unfold scE; rw [if_pos hok]
  rw [hsc] at hC
  have hout : 0 ≤ s.g.2 ∧ s.g.2 < 32 := by
    unfold gOk listOk at g2
    simp only [Bool.and_eq_true, decide_eq_true_eq] at g2
    omega
  have hkeeps := hsm.keeps
  have HC := Lib.hid (fun W hW => hC W hW hsm)
  clear hC hsc g2 hok hsm
  obtain ⟨⟨k0, k1, k2, k3⟩, ⟨ns, out⟩, ins, acts⟩ := s
  dsimp only at *
  obtain ⟨out, rfl⟩ : ∃ y : Nat, out = (y : Int) := ⟨out.toNat, by omega⟩
  have b0 := inR_b29 (g1 k0 (by simp [cfgN]))
  have b1 := inR_b29 (g1 k1 (by simp [cfgN]))
  have b2 := inR_b29 (g1 k2 (by simp [cfgN]))
  have b3 := inR_b29 (g1 k3 (by simp [cfgN]))
  obtain ⟨k0, rfl⟩ : ∃ y : Nat, k0 = (y : Int) := ⟨k0.toNat, by omega⟩
  obtain ⟨k1, rfl⟩ : ∃ y : Nat, k1 = (y : Int) := ⟨k1.toNat, by omega⟩
  obtain ⟨k2, rfl⟩ : ∃ y : Nat, k2 = (y : Int) := ⟨k2.toNat, by omega⟩
  obtain ⟨k3, rfl⟩ : ∃ y : Nat, k3 = (y : Int) := ⟨k3.toNat, by omega⟩
  have hLS : linesS ⟨((k0 : Int), (k1 : Int), (k2 : Int), (k3 : Int)), (ns, (out : Int)), ins, acts⟩ = [joinL [configW, Lib.decDigits k0, Lib.decDigits k1, Lib.decDigits k2, Lib.decDigits k3]] ++ outLs ns 0 ++ [joinL [outW, nameL out false]] ++ ins.flatMap epLs ++ acts.map actS := rfl
  generalize linesS ⟨((k0 : Int), (k1 : Int), (k2 : Int), (k3 : Int)), (ns, (out : Int)), ins, acts⟩ = LS at *
  have HLS := Lib.hid hLS
  have HLEN := Lib.hid hlen
  have HNS := Lib.hid hns
  have HBG := Lib.hid hbag
  have HG4 := Lib.hid g4
  have HG6 := Lib.hid g6
  have HKP := Lib.hid hkeeps
  have hal := (Ext.refl w).alloc (scCs (.int .i64 k0) (.int .i64 k1) (.int .i64 k2) (.int .i64 k3) nv (out : Int) iv av)
  have HB1 := Lib.hid (Bx8.new w 43 (.int .i64 k0) (.int .i64 k1) (.int .i64 k2) (.int .i64 k3) nv (.int .i64 (out : Int)) iv av)
  have HX1 := Lib.hid hal
  have HH1 := Lib.hid (h.ext hal)
  have HT := Lib.hid ht
  have HIT := Lib.hid (fun (n : Nat) (hn : n ≤ 1073741824) W ht => itoa_any n (by omega) W ht)
  have HI16 := Lib.hid g3
  have HA256 := Lib.hid g5
  have HK := Lib.hid (show (k0 ≤ 1073741824 ∧ k1 ≤ 1073741824) ∧ k2 ≤ 1073741824 ∧ k3 ≤ 1073741824 from ⟨⟨by omega, by omega⟩, by omega, by omega⟩)
  have HOUT := Lib.hid (show out < 32 from by omega)
  obtain ⟨⟨AN, cN, rfl⟩, ⟨AI, cI, rfl⟩, AA, cA, rfl⟩ := h.form
  clear h ht hal hns hbag hlen hLS g1 g3 g4 g5 g6 b0 b1 b2 b3 hout hkeeps
  go_enter Tryz.func12, Tryz.ntmps12
  obtain ⟨q, hq⟩ : ∃ q, q = w.heap.size := ⟨_, rfl⟩
  have HQ := Lib.hid hq
  go_upto_region 1 with fail
  rw [← hq] at HB1 ⊢
  clear hq
  generalize w.alloc (scCs (.int .i64 k0) (.int .i64 k1) (.int .i64 k2) (.int .i64 k3) (.slice AN ns.length cN) (out : Int) (.slice AI ins.length cI) (.slice AA acts.length cA)) = w1 at *
  obtain ⟨c0, c1, c2, c3, c4, c5, c6, c7⟩ := HB1.out.at_
  go_wp2_with fail
  refine (HC.out _ HH1.out).mono ?_
  rintro e w2 ⟨rfl, he2⟩
  have HB2 := Lib.hid (HB1.out.ext he2)
  have HH2 := Lib.hid (HH1.out.ext he2)
  have HX2 := Lib.hid (HX1.out.trans he2)
  clear c0 c1 c2 c3 c4 c5 c6 c7 he2 HB1 HH1 HX1 HC
  go_upto_region 6 with fail
  have hal := (Ext.refl w2).alloc (.cells #[.pointer none, .slice none 0 0] 78)
  have HW3 := Lib.hid (WB.new w2)
  have HB3 := Lib.hid (HB2.out.ext hal)
  have HX3 := Lib.hid hal
  have HSZ3 := Lib.hid (show w2.heap.size < (w2.alloc (.cells #[.pointer none, .slice none 0 0] 78)).heap.size from by simp)
  have HT2 := Lib.hid (show Wtb w2 from ⟨HT.out.t.ext HX2.out, HT.out.o.ext HX2.out, HT.out.f.ext HX2.out⟩)
  have HQ2 := Lib.hid HB2.out.b.lt
  obtain ⟨B, hB⟩ : ∃ B, B = w2.heap.size := ⟨_, rfl⟩
  have HBB := Lib.hid hB
  rw [← hB] at HW3 HSZ3 HQ2 ⊢
  clear hB hal
  generalize w2.alloc (.cells #[.pointer none, .slice none 0 0] 78) = w3 at *
  obtain ⟨c0, c1, c2, c3, c4, c5, c6, c7⟩ := HB3.out.at_
  have HT3 := Lib.hid (HT2.out.t.ext HX3.out)
  have hI0 := fun W h => HIT.out k0 HK.out.1.1 W (HT3.out.ext h)
  have hI1 := fun W h => HIT.out k1 HK.out.1.2 W (HT3.out.ext h)
  have hI2 := fun W h => HIT.out k2 HK.out.2.1 W (HT3.out.ext h)
  have hI3 := fun W h => HIT.out k3 HK.out.2.2 W (HT3.out.ext h)
  have HI := Lib.hid (And.intro (And.intro hI0 hI1) (And.intro hI2 hI3))
  clear hI0 hI1 hI2 hI3
  obtain ⟨D0, hD0⟩ : ∃ D, Lib.decDigits k0 = D := ⟨_, rfl⟩
  obtain ⟨D1, hD1⟩ : ∃ D, Lib.decDigits k1 = D := ⟨_, rfl⟩
  obtain ⟨D2, hD2⟩ : ∃ D, Lib.decDigits k2 = D := ⟨_, rfl⟩
  obtain ⟨D3, hD3⟩ : ∃ D, Lib.decDigits k3 = D := ⟨_, rfl⟩
  rw [hD0, hD1, hD2, hD3] at HI HLS
  clear hD0 hD1 hD2 hD3
  go_wp2
  refine wp_region_tailY 22 [] [] Ext Ext (fun _ => True) (by kernel_rfl) (by kernel_rfl) (by kernel_rfl) (by kernel_rfl) (by kernel_rfl) (by kernel_rfl) (by kernel_rfl) (by rfl) (by rfl) (by kernel_rfl) (by kernel_rfl) (by kernel_rfl) (fun _ _ _ x y => x.trans y) Ext.refl (fun _ _ x => x) (Ext.refl _).drew (fun _ _ x _ => x) trivial ?_
  refine ya ?_
  refine yl1 c0 ?_
  refine yc2 (strV D0) (fun w' hR => HI.out.1.1 w' hR) ?_
  refine ya ?_
  refine yl1 c1 ?_
  refine yc2 (strV D1) (fun w' hR => HI.out.1.2 w' hR) ?_
  refine ya ?_
  refine yl1 c2 ?_
  refine yc2 (strV D2) (fun w' hR => HI.out.2.1 w' hR) ?_
  refine ya ?_
  refine yl1 c3 ?_
  refine yc2 (strV D3) (fun w' hR => HI.out.2.2 w' hR) ?_
  refine wpY_call (fun v w => RE w v [configW, D0, D1, D2, D3]) rfl rfl (by first | exact runs0 | exact runs1 rfl) rfl (by first | exact mono_eq | exact (fun _ _ _ h k => Rd.ext h k) | exact (fun _ _ _ h k => RB.ext h k) | exact (fun _ _ _ h k => OB.ext h k) | exact (fun _ _ _ h k => RB.extS h k) | exact (fun _ _ _ h k => Rd.ext h (GrownW.ext k)) | exact (fun _ _ _ h k => RP.ext h k) | exact (fun _ _ _ h k => OP.ext h k) | exact (fun _ _ _ h k => Rd.extV h k) | exact (fun _ _ _ h k => RB.extV h k) | exact (fun _ _ _ h k => E0.ext h k) | exact (fun _ _ _ h k => O0.ext h k) | exact (fun _ _ _ h k => RE.ext h k) | exact (fun _ _ _ h k => RE.extD h k) | exact (fun _ _ _ h _ => h) | exact (fun _ _ _ ⟨n, h1, h2⟩ k => ⟨n, h1, k.st _ _ h2⟩) | exact (fun _ _ _ h k => OE.ext h k) | exact (fun _ _ _ ⟨n, h1, h2, h3⟩ k => ⟨n, h1, h2, h3.ext k⟩)) ?_ ?_
  · intro a w' hR h1 h2 h3 h4 K hK
    have e1 : _ = _ := h1
    have e2 : _ = _ := h2
    have e3 : _ = _ := h3
    have e4 : _ = _ := h4
    have q1 : a.tmps[25]?.getD undef = strV D0 := by rw [← Array.getD_eq_getD_getElem?]; exact e1
    have q2 : a.tmps[30]?.getD undef = strV D1 := by rw [← Array.getD_eq_getD_getElem?]; exact e2
    have q3 : a.tmps[35]?.getD undef = strV D2 := by rw [← Array.getD_eq_getD_getElem?]; exact e3
    have q4 : a.tmps[40]?.getD undef = strV D3 := by rw [← Array.getD_eq_getD_getElem?]; exact e4
    go_simp
    exact hK _ _ ((Ext.refl _).alloc _) (OE.re (strs_lit w' #[strV configW, strV D0, strV D1, strV D2, strV D3] 5 0 [configW, D0, D1, D2, D3] (Nat.zero_le _) rfl (by omega) rfl))
  refine wpY_done ?_
  intro w4 hx4 hS4
  iterate 21 (rintro _ rfl)
  rintro v41 h41
  dsimp only [FinV]
  go_simp
  have hx4 : Ext w3 w4 := hx4
  have HW4 := Lib.hid (HW3.out.ext hx4)
  have HB4 := Lib.hid (HB3.out.ext hx4)
  have HSZ4 := Lib.hid (show B ≤ w4.heap.size from Nat.le_of_lt (Nat.lt_of_lt_of_le HSZ3.out hx4.size))
  have HX4 := Lib.hid (HX3.out.trans hx4)
  have HR4 := Lib.hid h41
  obtain ⟨A41, c41, rfl⟩ := h41.form
  clear hx4 hS4 h41 c0 c1 c2 c3 c4 c5 c6 c7 HI
  obtain ⟨CL, hCL⟩ : ∃ CL, joinL [configW, D0, D1, D2, D3] = CL := ⟨_, rfl⟩
  rw [hCL] at HLS
  have HCL := Lib.hid hCL
  -- all prefixes are short
  have HP1 := Lib.hid (show (linesT [CL]).length ≤ 65536 from by
    have h1 := HLEN.out
    rw [HLS.out, linesT_app, linesT_app, linesT_app, linesT_app] at h1
    simp only [List.length_append] at h1
    omega)
  have HCW := Lib.hid (wline_any B B [] _ [configW, D0, D1, D2, D3] w4 HW4.out HR4.out (by simp) HSZ4.out (by
    rw [hCL]
    have h1 := HP1.out
    rw [linesT_one, List.length_append] at h1
    simp only [List.length_nil]
    omega))
  rw [hCL, List.nil_append, ← linesT_one] at HCW
  clear hCL
  simp only [thenTail, List.drop_succ_cons, List.drop_zero]
  go_wp2_with fail
  refine HCW.out.mono ?_
  rintro e w5 ⟨rfl, hw5, hf5⟩
  have HW5 := Lib.hid hw5
  have HX5 := Lib.hid (show Ext w2 w5 from by have h1 := HX4.out; have h2 := hf5.b; rw [HBB.out] at h2; exact Below.trans h1 h2)
  have HSZ5 := Lib.hid (Nat.le_trans HSZ4.out hf5.b.size)
  obtain ⟨c0, c1, c2, c3, c4, c5, c6, c7⟩ := (HB2.out.ext HX5.out).at_
  clear hw5 hf5 HW4 HB4 HX4 HR4 HCW HW3 HB3 HX3 HSZ3 HT3 HCL
  have HP2 := Lib.hid (show (linesT [CL] ++ linesT (outLs ns 0)).length ≤ 65536 from by
    have h1 := HLEN.out
    rw [HLS.out, linesT_app, linesT_app, linesT_app, linesT_app] at h1
    simp only [List.length_append] at h1 ⊢
    omega)
  have HCN := Lib.hid (wnodes_any d B B (linesT [CL]) (.slice AN ns.length cN) ns w2 w5 HW5.out HH2.out.n HX5.out (by rw [HBB.out]; exact Nat.le_refl _) HSZ5.out HT2.out HNS.out (Nat.le_trans HP1.out (by omega)))
  generalize hT2 : linesT [CL] ++ linesT (outLs ns 0) = T2 at *
  have HT2E := Lib.hid hT2
  clear hT2
  go_wp2_with fail
  refine HCN.out.mono ?_
  rintro e w6 ⟨rfl, hw6, hf6⟩
  have HW6 := Lib.hid hw6
  have HX6 := Lib.hid (show Ext w2 w6 from by have h1 := HX5.out; have h2 := hf6.b; rw [HBB.out] at h2; exact Below.trans h1 h2)
  have HSZ6 := Lib.hid (Nat.le_trans HSZ5.out hf6.b.size)
  clear hw6 hf6 c0 c1 c2 c3 c4 c5 c6 c7 HW5 HX5 HSZ5 HCN
  obtain ⟨c0, c1, c2, c3, c4, c5, c6, c7⟩ := (HB2.out.ext HX6.out).at_
  have HCO := Lib.hid (lname_any out false w6 (by have := HOUT.out; omega) (HT2.out.t.ext HX6.out))
  obtain ⟨on, hon⟩ : ∃ on, nameL out false = on := ⟨_, rfl⟩
  rw [hon] at HCO HLS
  clear hon
  go_wp2_with fail
  refine HCO.out.mono ?_
  rintro e w7 ⟨rfl, he7⟩
  have hal := (Ext.refl w7).alloc (.cells #[.string ⟨#[111, 117, 116]⟩, strV on] 9)
  have HR7 := Lib.hid (OE.re (strs_lit w7 #[.string ⟨#[111, 117, 116]⟩, strV on] 2 0 [outW, on] (Nat.zero_le _) rfl (by omega) rfl))
  have HX7 := Lib.hid (HX6.out.trans (he7.trans hal))
  have HW7 := Lib.hid (HW6.out.ext (he7.trans hal))
  have HSZ7 := Lib.hid (Nat.le_trans HSZ6.out (Nat.le_trans he7.size hal.size))
  clear he7 hal c0 c1 c2 c3 c4 c5 c6 c7
  obtain ⟨OL, hOL⟩ : ∃ OL, joinL [outW, on] = OL := ⟨_, rfl⟩
  rw [hOL] at HLS
  have HP3 := Lib.hid (show (T2 ++ linesT [OL]).length ≤ 65536 from by
    have h1 := HLEN.out
    rw [HLS.out, linesT_app, linesT_app, linesT_app, linesT_app, HT2E.out] at h1
    simp only [List.length_append] at h1 ⊢
    omega)
  have HCW := Lib.hid (wline_any B B T2 _ [outW, on] _ HW7.out HR7.out (by simp) HSZ7.out (by
    rw [hOL]
    have h1 := HP3.out
    rw [linesT_one, List.length_append, List.length_append] at h1
    omega))
  rw [hOL, ← linesT_one] at HCW
  clear hOL
  generalize hT3 : T2 ++ linesT [OL] = T3 at *
  have HT3E := Lib.hid hT3
  clear hT3
  go_wp2_with fail
  refine HCW.out.mono ?_
  rintro e w8 ⟨rfl, hw8, hf8⟩
  have HW8 := Lib.hid hw8
  have HX8 := Lib.hid (show Ext w2 w8 from by have h1 := HX7.out; have h2 := hf8.b; rw [HBB.out] at h2; exact Below.trans h1 h2)
  have HSZ8 := Lib.hid (Nat.le_trans HSZ7.out hf8.b.size)
  clear hw8 hf8 HW6 HX6 HSZ6 HCO HW7 HX7 HSZ7 HR7 HCW
  obtain ⟨c0, c1, c2, c3, c4, c5, c6, c7⟩ := (HB2.out.ext HX8.out).at_
  -- all that is behind is short too
  have HP4 := Lib.hid (show ∀ i, (T3 ++ linesT ((ins.take i).flatMap epLs)).length ≤ 65536 from fun i => by
    have h1 := HLEN.out
    rw [HLS.out, linesT_app, linesT_app, linesT_app, linesT_app, HT2E.out, HT3E.out] at h1
    have h2 : (linesT (ins.flatMap epLs)).length = (linesT ((ins.take i).flatMap epLs)).length + (linesT ((ins.drop i).flatMap epLs)).length := by
      rw [← List.length_append, ← linesT_app, ← List.flatMap_append, List.take_append_drop]
    simp only [List.length_append] at h1 ⊢
    omega)
  go_wp2
  clear c0 c1 c2 c3 c4 c5 c6 c7
  go_loopw [58] (fun iv wr => ∃ i : Nat, i ≤ ins.length ∧ iv = .int .i64 (i : Int) ∧ WB TW TB B B wr (T3 ++ linesT ((ins.take i).flatMap epLs)) ∧ Ext w2 wr) (fun iv _ => ins.length - (intOf iv).toNat)
  case atStart => exact ⟨0, Nat.zero_le _, rfl, by simpa [linesT] using HW8.out, HX8.out⟩
  case round =>
    obtain ⟨i, hi, rfl, hws, hwx⟩ := hrel
    rename World => wr
    have hi16 : i ≤ 16 := by have := HI16.out; omega
    have HSZ := Lib.hid (show B ≤ wr.heap.size from by rw [HBB.out]; exact hwx.size)
    by_cases hlt : i < ins.length
    · have q1 : (i : Int) < (ins.length : Int) := by omega
      have q0 : 0 ≤ (i : Int) := by omega
      have q1n : i < ins.length := hlt
      have HLT := Lib.hid hlt
      obtain ⟨bI, oI, u0, rfl, z0, hu0⟩ := HH2.out.i.at_ hlt
      have z0 := hwx.cell z0
      have HS := Lib.hid (epLs_s ins hlt)
      have HPK := Lib.hid (show (T3 ++ linesT ((ins.take i).flatMap epLs) ++ linesT (epLs ins[i])).length ≤ 65536 from by
        have := HP4.out (i + 1)
        rw [HS.out, linesT_app, ← List.append_assoc] at this
        exact this)
      have HEO := Lib.hid (And.intro (HG4.out _ (List.getElem_mem hlt)) (HBG.out _ (List.getElem_mem hlt)))
      generalize ins[i] = L at *
      have HL4 := Lib.hid (show L.length ≤ 4 ∧ (∀ b ∈ L, Rec.may b = 0) from by
        have h := HEO.out.1
        unfold epOk at h
        simp only [Bool.and_eq_true, decide_eq_true_eq, List.all_eq_true] at h
        exact ⟨h.1, fun b hb => h.2 b hb⟩)
      generalize hlk : T3 ++ linesT ((ins.take i).flatMap epLs) = lk at *
      have HLK := Lib.hid hlk
      have HU0 := Lib.hid hu0
      obtain ⟨AL, cL, rfl⟩ := hu0.form
      have hal := (Ext.refl wr).alloc (.cells #[.string ⟨#[101, 112, 111, 99, 104]⟩] 9)
      have HR9 := Lib.hid (OE.re (strs_lit wr #[.string ⟨#[101, 112, 111, 99, 104]⟩] 1 0 [epochW] (Nat.zero_le _) rfl (by omega) rfl))
      have HPE := Lib.hid (show (lk ++ linesT [epochW]).length ≤ 65536 from by
        have h1 := HPK.out
        rw [show epLs L = [epochW] ++ L.map (fun b => joinL (bagW b)) from rfl, linesT_app] at h1
        simp only [List.length_append] at h1 ⊢
        omega)
      have HCW := Lib.hid (wline_any B B lk _ [epochW] _ (hws.ext hal) HR9.out (by simp) (Nat.le_trans HSZ.out hal.size) (by
        rw [joinL_one]
        have h1 := HPE.out
        rw [linesT_one, List.length_append, List.length_append] at h1
        omega))
      rw [joinL_one, ← linesT_one] at HCW
      have HX9 := Lib.hid (hwx.trans hal)
      have HSZ9 := Lib.hid (Nat.le_trans HSZ.out hal.size)
      clear hws hwx hal hlt hi hu0 hlk
      go_wp2_with fail
      refine HCW.out.mono ?_
      rintro e w9 ⟨rfl, hw9, hf9⟩
      have HW9 := Lib.hid hw9
      have HX10 := Lib.hid (show Ext w2 w9 from by have h1 := HX9.out; have h2 := hf9.b; rw [HBB.out] at h2; exact Below.trans h1 h2)
      have HSZ10 := Lib.hid (Nat.le_trans HSZ9.out hf9.b.size)
      clear hw9 hf9 z0 q1 q0 q1n hi16
      generalize hlm : lk ++ linesT [epochW] = lm at *
      have HLM := Lib.hid hlm
      clear hlm
      go_wp2
      go_loopw [67] (fun jv wq => ∃ k : Nat, k ≤ L.length ∧ jv = .int .i64 (k : Int) ∧ WB TW TB B B wq (lm ++ linesT ((L.take k).map fun b => joinL (bagW b))) ∧ Ext w2 wq) (fun jv _ => L.length - (intOf jv).toNat)
      case atStart => exact ⟨0, Nat.zero_le _, rfl, by simpa [linesT] using HW9.out, HX10.out⟩
      case round =>
        obtain ⟨k, hk, rfl, hws, hwx⟩ := hrel
        rename World => wq
        have hk4 : k ≤ 4 := by have := HL4.out.1; omega
        have hi16 : i ≤ 16 := by have := HI16.out; have := HLT.out; omega
        have HSZq := Lib.hid (show B ≤ wq.heap.size from by rw [HBB.out]; exact hwx.size)
        by_cases hkl : k < L.length
        · have r1 : (k : Int) < (L.length : Int) := by omega
          have r0 : 0 ≤ (k : Int) := by omega
          have r1n : k < L.length := hkl
          have HKL := Lib.hid hkl
          obtain ⟨bE, oE, u3, rfl, y0, hu3⟩ := HU0.out.at_ hkl
          have y0 := hwx.cell y0
          have HSB := Lib.hid (bags_s L hkl)
          have HLB := Lib.hid (show (lm ++ linesT ((L.take k).map fun b => joinL (bagW b)) ++ linesT [joinL (bagW (L[k]'hkl))]).length ≤ 65536 from by
            have h1 := HPK.out
            rw [show epLs L = [epochW] ++ L.map (fun b => joinL (bagW b)) from rfl, linesT_app, ← List.append_assoc, HLM.out] at h1
            have h2 : linesT (L.map fun b => joinL (bagW b)) = linesT ((L.take (k + 1)).map fun b => joinL (bagW b)) ++ linesT ((L.drop (k + 1)).map fun b => joinL (bagW b)) := by
              rw [← linesT_app, ← List.map_append, List.take_append_drop]
            rw [h2, bags_s L hkl, linesT_app] at h1
            simp only [List.length_append] at h1 ⊢
            omega)
          have HBO := Lib.hid (And.intro (HL4.out.2 _ (List.getElem_mem hkl)) (HEO.out.2 _ (List.getElem_mem hkl)))
          generalize L[k]'hkl = Bg at *
          generalize hln : lm ++ linesT ((L.take k).map fun b => joinL (bagW b)) = ln at *
          have HLN := Lib.hid hln
          have HCB := Lib.hid (wbag_any B B ln u3 Bg w2 wq hws hu3 hwx (by rw [HBB.out]; exact Nat.le_refl _) HSZq.out HT2.out.t HBO.out.1 HBO.out.2.1 HBO.out.2.2.2 HBO.out.2.2.1 (by
            have h1 := HLB.out
            rw [linesT_one, List.length_append, List.length_append] at h1
            omega))
          rw [← linesT_one] at HCB
          have HXq := Lib.hid hwx
          obtain ⟨AB, cB, rfl⟩ := hu3.form
          clear hu3 hkl hk hws hwx hln
          go_wp2_with fail
          refine HCB.out.mono ?_
          rintro e wz ⟨rfl, hwz, hfz⟩
          have HWz := Lib.hid hwz
          have HXz := Lib.hid (show Ext w2 wz from by have h1 := HXq.out; have h2 := hfz.b; rw [HBB.out] at h2; exact Below.trans h1 h2)
          clear hwz hfz y0
          go_wp2
          exact ⟨⟨k + 1, HKL.out, by go_num, by rw [HSB.out, linesT_app, ← List.append_assoc, HLN.out]; exact HWz.out, HXz.out⟩, by have := HKL.out; simp [intOf]; omega⟩
        · obtain rfl : k = L.length := by omega
          have r1 : ¬ (L.length : Int) < (L.length : Int) := by omega
          rw [List.take_length] at hws
          have HWS := Lib.hid hws
          have HWX := Lib.hid hwx
          clear hk hkl hws hwx
          go_wp2
          exact ⟨⟨i + 1, HLT.out, by go_num, by
            rw [HS.out, linesT_app, ← List.append_assoc, HLK.out, show epLs L = [epochW] ++ L.map (fun b => joinL (bagW b)) from rfl, linesT_app, ← List.append_assoc, HLM.out]
            exact HWS.out, HWX.out⟩, by have := HLT.out; simp [intOf]; omega⟩
    · obtain rfl : i = ins.length := by omega
      have q1 : ¬ (ins.length : Int) < (ins.length : Int) := by omega
      rw [List.take_length] at hws
      have HP5 := Lib.hid (show ∀ k, (T3 ++ linesT (ins.flatMap epLs) ++ linesT ((acts.take k).map actS)).length ≤ 65536 from fun k => by
        have h1 := HLEN.out
        rw [HLS.out, linesT_app, linesT_app, linesT_app, linesT_app, HT2E.out, HT3E.out] at h1
        have h2 : (linesT (acts.map actS)).length = (linesT ((acts.take k).map actS)).length + (linesT ((acts.drop k).map actS)).length := by
          rw [← List.length_append, ← linesT_app, ← List.map_append, List.take_append_drop]
        simp only [List.length_append] at h1 ⊢
        omega)
      generalize hT5 : T3 ++ linesT (ins.flatMap epLs) = T5 at *
      have HT5 := Lib.hid hT5
      have HW5 := Lib.hid hws
      have HX5 := Lib.hid hwx
      obtain ⟨c0, c1, c2, c3, c4, c5, c6, c7⟩ := (HB2.out.ext hwx).at_
      clear hws hwx hlt hi hi16 hT5 HP4
      go_wp2
      clear c0 c1 c2 c3 c4 c5 c6 c7
      go_loopw [79] (fun jv wq => ∃ k : Nat, k ≤ acts.length ∧ jv = .int .i64 (k : Int) ∧ WB TW TB B B wq (T5 ++ linesT ((acts.take k).map actS)) ∧ Ext w2 wq) (fun jv _ => acts.length - (intOf jv).toNat)
      case atStart => exact ⟨0, Nat.zero_le _, rfl, by simpa [linesT] using HW5.out, HX5.out⟩
      case round =>
        obtain ⟨k, hk, rfl, hws, hwx⟩ := hrel
        rename World => wq
        have hk256 : k ≤ 256 := by have := HA256.out; omega
        have HSZq := Lib.hid (show B ≤ wq.heap.size from by rw [HBB.out]; exact hwx.size)
        by_cases hkl : k < acts.length
        · have r1 : (k : Int) < (acts.length : Int) := by omega
          have r0 : 0 ≤ (k : Int) := by omega
          have r1n : k < acts.length := hkl
          have HKL := Lib.hid hkl
          obtain ⟨bA, oA, ua, rfl, y0, y1, y2, y3, y4, y5, hua⟩ := HH2.out.a.at_ hkl
          have HSB := Lib.hid (acts_s acts hkl)
          have HLB := Lib.hid (show (T5 ++ linesT ((acts.take k).map actS) ++ linesT [actS (acts[k]'hkl)]).length ≤ 65536 from by
            have := HP5.out (k + 1)
            rw [HSB.out, linesT_app, ← List.append_assoc] at this
            exact this)
          have HKO := Lib.hid (HKP.out _ (List.getElem_mem hkl))
          generalize acts[k]'hkl = g at *
          obtain ⟨⟨ak, an, aa, ab, at_⟩, ks⟩ := g
          dsimp only at *
          obtain ⟨Au, cu, rfl⟩ := hua.form
          have y0 := hwx.cell y0
          have y1 := hwx.cell y1
          have y2 := hwx.cell y2
          have y3 := hwx.cell y3
          have y4 := hwx.cell y4
          have y5 := hwx.cell y5
          have hal := (Ext.refl wq).alloc (actCs ak an aa ab at_ (.slice Au ks.length cu))
          have HAB := Lib.hid (Bx6.new wq 24 (.int .i64 ak) (.int .i64 an) (.int .i64 aa) (.int .i64 ab) (.int .i64 at_) (.slice Au ks.length cu))
          have HXq := Lib.hid (hwx.trans hal)
          have HWq := Lib.hid (hws.ext hal)
          have HSZr := Lib.hid (Nat.le_trans HSZq.out hal.size)
          have HCA := Lib.hid (fun W (hW : Ext w2 W) => sAct_any ak an aa ab at_ (.slice Au ks.length cu) ks W (RE.ext hua hW) HKO.out (HT2.out.t.ext hW))
          generalize hln : T5 ++ linesT ((acts.take k).map actS) = ln at *
          have HLN := Lib.hid hln
          generalize actS ((ak, an, aa, ab, at_), ks) = ll at *
          clear hua hkl hk hws hwx hln hal
          go_upto_region 22 with fail
          obtain ⟨pa, hpa⟩ : ∃ pa, pa = wq.heap.size := ⟨_, rfl⟩
          rw [← hpa] at HAB ⊢
          clear hpa y0 y1 y2 y3 y4 y5
          generalize wq.alloc (actCs ak an aa ab at_ (.slice Au ks.length cu)) = wr2 at *
          obtain ⟨y0, y1, y2, y3, y4, y5⟩ := HAB.out.at_
          go_wp2_with fail
          refine (HCA.out _ HXq.out).mono ?_
          rintro e wy ⟨rfl, hey⟩
          have haly := (Ext.refl wy).alloc (.cells #[strV ll] 9)
          have HRy := Lib.hid (word_lit29 wy ll)
          have HWy := Lib.hid ((HWq.out.ext hey).ext haly)
          have HXy := Lib.hid ((HXq.out.trans hey).trans haly)
          have HSZy := Lib.hid (Nat.le_trans HSZr.out (Nat.le_trans hey.size haly.size))
          have HCW := Lib.hid (wline_any B B ln _ [ll] _ HWy.out HRy.out (by simp) HSZy.out (by
            rw [joinL_one]
            have h1 := HLB.out
            rw [linesT_one, List.length_append, List.length_append] at h1
            omega))
          rw [joinL_one, ← linesT_one] at HCW
          clear hey haly y0 y1 y2 y3 y4 y5
          go_wp2_with fail
          refine HCW.out.mono ?_
          rintro e wz ⟨rfl, hwz, hfz⟩
          have HWz := Lib.hid hwz
          have HXz := Lib.hid (show Ext w2 wz from by have h1 := HXy.out; have h2 := hfz.b; rw [HBB.out] at h2; exact Below.trans h1 h2)
          clear hwz hfz
          go_wp2
          exact ⟨⟨k + 1, HKL.out, by go_num, by rw [HSB.out, linesT_app, ← List.append_assoc, HLN.out]; exact HWz.out, HXz.out⟩, by have := HKL.out; simp [intOf]; omega⟩
        · obtain rfl : k = acts.length := by omega
          have r1 : ¬ (acts.length : Int) < (acts.length : Int) := by omega
          have HTX := Lib.hid (show linesT LS = T5 ++ linesT (acts.map actS) from by
            rw [HLS.out, linesT_app, linesT_app, linesT_app, linesT_app, HT2E.out, HT3E.out, HT5.out])
          have HNE := Lib.hid (show linesT LS ≠ [] from by
            rw [HLS.out, linesT_app, linesT_app, linesT_app, linesT_app, linesT_one]
            simp)
          rw [List.take_length, ← HTX.out] at hws
          have HWS := Lib.hid hws
          have HWX := Lib.hid hwx
          have HLE := Lib.hid HLEN.out
          obtain ⟨TX, hTX⟩ : ∃ TX, linesT LS = TX := ⟨_, rfl⟩
          rw [hTX] at HWS HLE HNE
          have HTE := Lib.hid hTX
          clear hTX
          have r2 : ¬ (65536 : Int) < (TX.length : Int) := by have := HLE.out; omega
          clear hk hkl hws hwx
          go_wp2_with fail
          refine (bLen_any B B TX _ HWS.out).mono ?_
          rintro e wy ⟨rfl, rfl⟩
          go_wp2_with fail
          refine (bString_any B B TX _ HWS.out HNE.out).mono ?_
          rintro e wz ⟨rfl, hbz⟩
          have HF := Lib.hid (show Ext w wz from HX2.out.trans (by have h1 := HWX.out; have h2 := hbz; rw [HBB.out] at h2; exact Below.trans h1 h2))
          clear hbz
          go_wp2
          go_ret2
          exact ⟨by rw [HTE.out]; rfl, HF.out⟩
end Go.Proofs.YtpmgmiiidfconaaGreatDoor
