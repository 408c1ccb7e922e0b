/-
  PlRef3, packed: what the claim needs of them.
-/
import Derived.Test.YtcacicgkebcdkaaPa37
namespace Go.Proofs.Ytcacicgkebcdkaa
open Go.RowKit Go.Ox Go.Ox.Gr Mo
set_option linter.unusedVariables false
set_option linter.unusedSimpArgs false
attribute [local irreducible] RE OE NodesR
set_option maxRecDepth 100000 in
set_option maxHeartbeats 8000000 in
theorem rarcs_any (d : Nat) (v : Value) (g : G) (w : World) (hv : NodesR d w v g.1) (hok : gOk g = true) (hn : (gPl g).length ≤ 20) :
    Calls Try.prog 14 #[gAg v g.2] w fun e w' => ∃ u, e = .returned u ∧ RE w' u (Pl.arcsL g) ∧ Ext w w' := by
  have hpl : gPl g = places g.1 := by unfold gPl; rw [if_pos hok]
  have HPL := Lib.hid (fun W (h : Ext w W) => rPlaces_any d v g.1 g.2 W (hv.ext h) (body_le (l := g.1) (out := g.2) hok).1 (body_le (l := g.1) (out := g.2) hok).2)
  rw [← hpl] at HPL
  have HAC := Lib.hid (fun p q W (h : Ext w W) (hp : p ∈ gPl g) => rarc_any d v g p q W (hv.ext h) hok hp)
  have HAL := Lib.hid (show Pl.arcsL g = (gPl g).flatMap (Pl.arcsR g) from rfl)
  have HRR := Lib.hid (fun p => Pl.arcsR_eq g p)
  have HR1 := Lib.hid (fun p q => (show Pl.arcR1 g p q = (Pl.arcF g p q).map fun w => (((p, q), w) : Pl.Ar) from rfl))
  have HRL := Lib.hid (fun p => Pl.arcsR_len g p)
  have HN := Lib.hid hn
  obtain ⟨l, out⟩ := g
  simp only at HPL HAC hv
  generalize Pl.arcsL (l, out) = AL at *
  generalize Pl.arcsR (l, out) = AR at *
  generalize Pl.arcR1 (l, out) = A1 at *
  generalize Pl.arcF (l, out) = AF at *
  generalize gPl (l, out) = PL at *
  obtain ⟨A, c, rfl⟩ := hv.form
  have HX0 := Lib.hid ((Ext.refl w).alloc (gCs (.slice A l.length c) out))
  have HB0 := Lib.hid (Blk.new w 24 #[.slice A l.length c, .int .i64 out])
  clear hv hok hn hpl
  go_enter Try.func14, Try.ntmps14
  go_upto_region 1 with fail
  obtain ⟨p, hp⟩ : ∃ p, p = w.heap.size := ⟨_, rfl⟩
  rw [← hp] at HB0 ⊢
  clear hp
  generalize w.alloc (gCs (.slice A l.length c) out) = w0 at *
  have c0 : w0.cell? ⟨p, 0, none⟩ = some (.slice A l.length c) := HB0.out.cell 0
  have c1 : w0.cell? ⟨p, 1, none⟩ = some (.int .i64 out) := HB0.out.cell 1
  go_wp2_with fail
  refine (HPL.out w0 HX0.out).mono ?_
  rintro e w1 ⟨uv, rfl, huv, he1⟩
  obtain ⟨AV, cV, rfl⟩ := huv.re.form
  have HX1 := Lib.hid (HX0.out.trans he1)
  have HB1 := Lib.hid (HB0.out.ext he1)
  have HV1 := Lib.hid huv.re
  have HPP := Lib.hid (show p < w1.heap.size from HB1.out.lt)
  clear huv he1 c0 c1 HPL
  go_wp2
  go_loopw [3, 5] (fun o iv wr => ∃ i : Nat, i ≤ PL.length ∧ iv = .int .i64 (i : Int) ∧ OE 39 w1.heap.size wr o ((PL.take i).flatMap AR) ∧ Ext w1 wr) (fun _ iv _ => PL.length - (intOf iv).toNat)
  case atStart => exact ⟨0, Nat.zero_le _, rfl, by simpa using OE.nilS _ _ _, Ext.refl _⟩
  case round =>
    obtain ⟨i, hi, rfl, ho, hx⟩ := hrel
    rename World => wr
    have HI2 := Lib.hid (show i ≤ 20 from by have := HN.out; omega)
    have HO := Lib.hid ho
    have HX := Lib.hid hx
    obtain ⟨AO, cO, hvo⟩ := ho.re.form
    clear ho hx
    by_cases hlt : i < PL.length
    · have r1 : (i : Int) < (PL.length : Int) := by omega
      have HLT := Lib.hid hlt
      obtain ⟨x, hx⟩ : ∃ x, x = PL[i] := ⟨_, rfl⟩
      have HFK1 := Lib.hid (show (PL.take (i + 1)).flatMap AR = (PL.take i).flatMap AR ++ AR x from by rw [hx]; exact Pl.flatk AR PL hlt)
      have HPI := Lib.hid (show PL[i]? = some x from by rw [List.getElem?_eq_getElem hlt]; exact congrArg some hx.symm)
      have HXM := Lib.hid (show x ∈ PL from by rw [hx]; exact List.getElem_mem hlt)
      have HARX := Lib.hid (HRR.out x)
      have HFL := Lib.hid (show ((PL.take i).flatMap AR).length ≤ 400 from by
        have h1 := Pl.flat_le AR 20 (PL.take i) fun a _ => by have := HRL.out a; have := HN.out; omega
        have h2 : (PL.take i).length ≤ 20 := by rw [List.length_take]; have := HN.out; omega
        omega)
      generalize (PL.take i).flatMap AR = FK at *
      subst hvo
      clear hlt hx hi
      go_wp2
      go_loopw [3, 6] (fun o kv wq => ∃ k : Nat, k ≤ PL.length ∧ kv = .int .i64 (k : Int) ∧ OE 39 w1.heap.size wq o (FK ++ (PL.take k).filterMap (A1 x)) ∧ Ext w1 wq) (fun _ kv _ => PL.length - (intOf kv).toNat)
      case atStart => exact ⟨0, Nat.zero_le _, rfl, by simpa using HO.out, HX.out⟩
      case round =>
        obtain ⟨k, hk, rfl, ho, hxq⟩ := hrel
        rename World => wq
        have HOQ := Lib.hid ho
        have HXQ := Lib.hid hxq
        obtain ⟨AQ, cQ, hvq⟩ := ho.re.form
        clear ho
        have hk20 : k ≤ 20 := by have := HN.out; omega
        by_cases hkl : k < PL.length
        · have r2 : (k : Int) < (PL.length : Int) := by omega
          have r20 : 0 ≤ (k : Int) := by omega
          have r10 : 0 ≤ (i : Int) := by omega
          have HKL := Lib.hid hkl
          obtain ⟨hil, hix⟩ := List.getElem?_eq_some_iff.1 HPI.out
          obtain ⟨bV, oV, hAV, y0, y1⟩ := rp2 (HV1.out.ext hxq) hil
          replace y0 : wq.cell? ⟨bV, oV + i * 2, none⟩ = some (.int .i64 x.1) := by rw [← hix]; exact y0
          replace y1 : wq.cell? ⟨bV, oV + i * 2 + 1, none⟩ = some (.int .i64 x.2) := by rw [← hix]; exact y1
          obtain ⟨bV', oV', hAV', z0, z1⟩ := rp2 (HV1.out.ext hxq) hkl
          rw [hAV] at hAV'
          injection hAV' with hAV'
          injection hAV' with hb hoff _
          subst hb hoff hAV
          obtain ⟨y, hy⟩ : ∃ y, y = PL[k] := ⟨_, rfl⟩
          have HTK := Lib.hid (show (PL.take (k + 1)).filterMap (A1 x) = (PL.take k).filterMap (A1 x) ++ (A1 x y).toList from by rw [hy]; exact Pl.fmk (A1 x) PL hkl)
          replace z0 : wq.cell? ⟨bV, oV + k * 2, none⟩ = some (.int .i64 y.1) := by rw [hy]; exact z0
          replace z1 : wq.cell? ⟨bV, oV + k * 2 + 1, none⟩ = some (.int .i64 y.2) := by rw [hy]; exact z1
          have HA1 := Lib.hid (HR1.out x y)
          have HCL := Lib.hid (fun W (hW : Ext wq W) => HAC.out x y W ((HX1.out.trans hxq).trans hW) HXM.out)
          generalize AF x y = fxy at *
          obtain ⟨FQ, hFQ⟩ : ∃ FQ, FQ = FK ++ (PL.take k).filterMap (A1 x) := ⟨_, rfl⟩
          have HFQ := Lib.hid hFQ
          have HFQL := Lib.hid (show FQ.length ≤ 800 from by
            rw [hFQ, List.length_append]
            have h1 := HFL.out
            have h2 := List.length_filterMap_le (A1 x) (PL.take k)
            rw [List.length_take] at h2
            omega)
          rw [← hFQ] at HOQ hvq
          clear hFQ
          obtain ⟨x1, x2⟩ := x
          obtain ⟨y1', y2'⟩ := y
          simp only at y0 y1 z0 z1
          subst hvq
          have g0 : wq.cell? ⟨p, 0, none⟩ = some (.slice A l.length c) := (HB1.out.ext hxq).cell 0
          have g1 : wq.cell? ⟨p, 1, none⟩ = some (.int .i64 out) := (HB1.out.ext hxq).cell 1
          have hA := World.block_lt_of_cell? wq _ g0
          have hP := World.block_lt_of_cell? wq _ y0
          simp only at hA hP
          have hA1 : ¬ p = wq.heap.size := by omega
          have hP1 : ¬ bV = wq.heap.size := by omega
          obtain ⟨s1, s2, hss⟩ : ∃ s1 s2, fxy.getD (false, 0) = (s1, s2) := ⟨_, _, rfl⟩
          rw [hss] at HCL
          obtain ⟨iso, hiso⟩ : ∃ b, fxy.isSome = b := ⟨_, rfl⟩
          rw [hiso] at HCL
          have HSS := Lib.hid hss
          have HIS := Lib.hid hiso
          clear hxq hkl hk hy hix hil hss hiso HAC HRR HRL HR1
          go_upto_region 9 with fail
          go_cut [7, 8] (fun s7 s8 wx => ∃ n7, s7 = .pointer (some ⟨n7, 0, none⟩) ∧ s8 = .bool iso ∧ Blk wx n7 37 #[.bool s1, .int .i64 s2] ∧ Ext wq wx)
          case first =>
            go_region_with (go_at_call 40; refine (HCL.out _ (by repeat (first | exact Ext.refl _ | refine Ext.drew ?_ | refine Ext.alloc ?_ _))).mono ?_; rintro e w5 ⟨rfl, he5⟩; try (have HBN := Lib.hid (((Blk.new wq 37 #[.bool false, .int .i64 0]).ext (Ext.refl _).drew).ext he5); have b0 := HBN.out.cell 0; have b1 := HBN.out.cell 1; have f0 := HBN.out.frozen 0; have f1 := HBN.out.frozen 1; have t0 := fun u => (HBN.out.set_ 0 u).frozen 1; have t1 := fun u => (HBN.out.set_ 0 u).cell 1))
            all_goals go_wp2
            all_goals go_meet
            all_goals first
              | exact ⟨_, rfl, rfl, Blk.fill2 HBN.out (.bool s1) (.int .i64 s2), (res2 HBN.out (((Ext.refl wq).alloc _).drew.trans he5) (Nat.le_refl _) (.bool s1) (.int .i64 s2)).2.2⟩
              | exact ⟨_, rfl, rfl, Blk.new w5 37 #[.bool s1, .int .i64 s2], ((Ext.refl wq).drew.trans he5).alloc _⟩
          case rest =>
          obtain ⟨n7, rfl, rfl, hb7, hx7⟩ := hcut
          rename World => w7
          have HB7 := Lib.hid hb7
          have HX7 := Lib.hid hx7
          have d0 : w7.cell? ⟨n7, 0, none⟩ = some (.bool s1) := hb7.cell 0
          have d1 : w7.cell? ⟨n7, 1, none⟩ = some (.int .i64 s2) := hb7.cell 1
          have y0 := hx7.cell y0
          have y1 := hx7.cell y1
          have z0 := hx7.cell z0
          have z1 := hx7.cell z1
          have HO7 := Lib.hid (HOQ.out.ext hx7)
          have HX17 := Lib.hid (HXQ.out.trans hx7)
          clear hb7 hx7 g0 g1 hA hP hA1 hP1 HCL HOQ
          cases iso with
          | false =>
            have HNN := Lib.hid (show FK ++ (PL.take (k + 1)).filterMap (A1 (x1, x2)) = FQ from by
              have h0 : fxy = none := by
                cases hf : fxy with
                | none => rfl
                | some z => have := HIS.out; rw [hf] at this; cases this
              rw [HTK.out, HA1.out, h0, HFQ.out]; simp)
            go_wp2
            exact ⟨⟨k + 1, HKL.out, by go_num, by rw [HNN.out]; exact HO7.out, HX17.out⟩, by have := HKL.out; simp [intOf]; omega⟩
          | true =>
            have HNN := Lib.hid (show FK ++ (PL.take (k + 1)).filterMap (A1 (x1, x2)) = FQ ++ [((((x1, x2), (y1', y2')), (s1, s2)) : Pl.Ar)] from by
              have h0 : fxy = some (s1, s2) := by
                cases hf : fxy with
                | none => have := HIS.out; rw [hf] at this; cases this
                | some z => have := HSS.out; rw [hf] at this; simpa using this
              rw [HTK.out, HA1.out, h0, HFQ.out]; simp)
            go_wp2
            refine wp_region_tailY 12 [] [] Ext Ext (fun _ => True) (by kernel_rfl) (by kernel_rfl) (by kernel_rfl) (by kernel_rfl) (by kernel_rfl) (by kernel_rfl) (by kernel_rfl) (by rfl) (by rfl) (by kernel_rfl) (by kernel_rfl) (by kernel_rfl) (fun _ _ _ x y => x.trans y) Ext.refl (fun _ _ x => x) (Ext.refl _).drew (fun _ _ x _ => x) trivial ?_
            repeat (first | (refine wpY_move0 rfl rfl (by first | exact runs0 | exact runs1 rfl) Ext.refl rfl rfl rfl ?_; apply Exists.intro; refine ⟨?_, ?_⟩; · (go_simp; rfl)) | (refine wpY_move rfl rfl (by first | exact runs0 | exact runs1 rfl) Ext.refl rfl rfl rfl (fun _ _ _ h _ => h) ?_) | (refine wpY_val rfl rfl (by first | exact runs0 | exact runs1 rfl) Ext.refl rfl ?_; apply Exists.intro; refine ⟨?_, ?_⟩; · (intro a w' hR; intro h1; (first | (have e1 : _ = _ := h1) | skip); intro h2; (first | (have e2 : _ = _ := h2) | skip); go_simp; rfl)) | (refine wpY_val rfl rfl (by first | exact runs0 | exact runs1 rfl) Ext.refl rfl ?_; apply Exists.intro; refine ⟨?_, ?_⟩; · (intro a w' hR; intro h1; (first | (have e1 : _ = _ := h1) | skip); go_simp; rfl)) | (refine wpY_val rfl rfl (by first | exact runs0 | exact runs1 rfl) Ext.refl rfl ?_; apply Exists.intro; refine ⟨?_, ?_⟩; · (intro a w' hR; go_simp; rfl)) | (refine wpY_val rfl rfl (by first | exact runs0 | exact runs1 rfl) Ext.refl rfl ?_; apply Exists.intro; refine ⟨?_, ?_⟩; · (intro a w' hR; intro h1; (first | (have e1 : _ = _ := h1) | skip); intro h2; (first | (have e2 : _ = _ := h2) | skip); intro h3; (first | (have e3 : _ = _ := h3) | skip); go_simp; rfl)) | (refine wpY_skip rfl rfl (by first | exact .inl rfl | exact .inr rfl) ?_))
            refine wpY_val rfl rfl (by first | exact runs0 | exact runs1 rfl) Ext.refl rfl ?_; apply Exists.intro; refine ⟨?_, ?_⟩
            · intro a w' hR h1
              have e1 : _ = _ := h1
              have hl0 := hR.cell y0
              have hl1 := hR.cell y1
              go_simp
              rfl
            repeat (first | (refine wpY_move0 rfl rfl (by first | exact runs0 | exact runs1 rfl) Ext.refl rfl rfl rfl ?_; apply Exists.intro; refine ⟨?_, ?_⟩; · (go_simp; rfl)) | (refine wpY_move rfl rfl (by first | exact runs0 | exact runs1 rfl) Ext.refl rfl rfl rfl (fun _ _ _ h _ => h) ?_) | (refine wpY_val rfl rfl (by first | exact runs0 | exact runs1 rfl) Ext.refl rfl ?_; apply Exists.intro; refine ⟨?_, ?_⟩; · (intro a w' hR; intro h1; (first | (have e1 : _ = _ := h1) | skip); intro h2; (first | (have e2 : _ = _ := h2) | skip); go_simp; rfl)) | (refine wpY_val rfl rfl (by first | exact runs0 | exact runs1 rfl) Ext.refl rfl ?_; apply Exists.intro; refine ⟨?_, ?_⟩; · (intro a w' hR; intro h1; (first | (have e1 : _ = _ := h1) | skip); go_simp; rfl)) | (refine wpY_val rfl rfl (by first | exact runs0 | exact runs1 rfl) Ext.refl rfl ?_; apply Exists.intro; refine ⟨?_, ?_⟩; · (intro a w' hR; go_simp; rfl)) | (refine wpY_val rfl rfl (by first | exact runs0 | exact runs1 rfl) Ext.refl rfl ?_; apply Exists.intro; refine ⟨?_, ?_⟩; · (intro a w' hR; intro h1; (first | (have e1 : _ = _ := h1) | skip); intro h2; (first | (have e2 : _ = _ := h2) | skip); intro h3; (first | (have e3 : _ = _ := h3) | skip); go_simp; rfl)) | (refine wpY_skip rfl rfl (by first | exact .inl rfl | exact .inr rfl) ?_))
            refine wpY_val rfl rfl (by first | exact runs0 | exact runs1 rfl) Ext.refl rfl ?_; apply Exists.intro; refine ⟨?_, ?_⟩
            · intro a w' hR h1
              have e1 : _ = _ := h1
              have hl0 := hR.cell z0
              have hl1 := hR.cell z1
              go_simp
              rfl
            refine wpY_val rfl rfl (by first | exact runs0 | exact runs1 rfl) Ext.refl rfl ?_; apply Exists.intro; refine ⟨?_, ?_⟩
            · intro a w' hR h1
              have e1 : _ = _ := h1
              have hl0 := hR.cell d0
              have hl1 := hR.cell d1
              go_simp
              rfl
            refine wpY_val rfl rfl (by first | exact runs0 | exact runs1 rfl) Ext.refl rfl ?_; apply Exists.intro; refine ⟨?_, ?_⟩
            · intro a w' hR h1 h2 h3
              have e1 : _ = _ := h1
              have e2 : _ = _ := h2
              have e3 : _ = _ := h3
              have q1 := e1; rw [Array.getD_eq_getD_getElem?] at q1
              have q2 := e2; rw [Array.getD_eq_getD_getElem?] at q2
              have q3 := e3; rw [Array.getD_eq_getD_getElem?] at q3
              go_simp
              rfl
            refine wpY_call (fun v w2 => RE w2 v [((((x1, x2), (y1', y2')), (s1, s2)) : Pl.Ar)]) rfl rfl (by first | exact runs0 | exact runs1 rfl) rfl (by first | exact mono_eq | exact (fun _ _ _ h k => Rd.ext h k) | exact (fun _ _ _ h k => RB.ext h k) | exact (fun _ _ _ h k => OB.ext h k) | exact (fun _ _ _ h k => RB.extS h k) | exact (fun _ _ _ h k => Rd.ext h (GrownW.ext k)) | exact (fun _ _ _ h k => RP.ext h k) | exact (fun _ _ _ h k => OP.ext h k) | exact (fun _ _ _ h k => Rd.extV h k) | exact (fun _ _ _ h k => RB.extV h k) | exact (fun _ _ _ h k => E0.ext h k) | exact (fun _ _ _ h k => O0.ext h k) | exact (fun _ _ _ h k => RE.ext h k) | exact (fun _ _ _ h k => RE.extD h k) | exact (fun _ _ _ h _ => h) | exact (fun _ _ _ ⟨n, h1, h2⟩ k => ⟨n, h1, k.st _ _ h2⟩) | exact (fun _ _ _ h k => OE.ext h k)) ?_ ?_
            · intro a w' hR h1 K hK
              have e1 : _ = _ := h1
              have q1 : a.tmps[47]?.getD undef = .agg #[.int .i64 x1, .int .i64 x2, .int .i64 y1', .int .i64 y2', .bool s1, .int .i64 s2] := by simpa using e1
              go_simp
              exact hK _ _ ((Ext.refl _).alloc _) (RE.lit _ #[.int .i64 x1, .int .i64 x2, .int .i64 y1', .int .i64 y2', .bool s1, .int .i64 s2] 39 1 [((((x1, x2), (y1', y2')), (s1, s2)) : Pl.Ar)] rfl (by omega) rfl)
            refine wpY_done ?_
            intro w5 hx5 hS
            iterate 11 (rintro _ rfl)
            rintro v48 h48
            dsimp only [FinV]
            go_simp
            have hx5 : Ext w7 w5 := hx5
            have HO5 := Lib.hid (HO7.out.ext hx5)
            have HX5 := Lib.hid (HX17.out.trans hx5)
            have HLIT := Lib.hid (show RE w5 v48 [((((x1, x2), (y1', y2')), (s1, s2)) : Pl.Ar)] from h48)
            clear hx5 hS h48
            simp only [thenTail, List.drop_succ_cons, List.drop_zero]
            go_wp2_with (refine wpList_appE rfl elemA w5 (.tmp 37) (.tmp 48) rfl w1.heap.size _ _ FQ [((((x1, x2), (y1', y2')), (s1, s2)) : Pl.Ar)] rfl HO5.out rfl HLIT.out (by have := HFQL.out; simp; omega) (by have := HFQL.out; unfold maxLen; simp; omega) HX5.out.size ?_; intro v8 w8 ho8 hg8 hat8)
            exact ⟨⟨k + 1, HKL.out, by go_num, by rw [HNN.out]; exact ho8, HX5.out.grown hat8 fun g hg => (HO5.out.own.lt g hg).1⟩, by have := HKL.out; simp [intOf]; omega⟩
        · obtain rfl : k = PL.length := by omega
          have r2 : ¬ (PL.length : Int) < (PL.length : Int) := by omega
          have HNN := Lib.hid (show (PL.take (i + 1)).flatMap AR = FK ++ (PL.take PL.length).filterMap (A1 x) from by rw [HFK1.out, HARX.out, List.take_length])
          clear hkl hk hxq
          go_wp2
          exact ⟨⟨i + 1, HLT.out, by go_num, by rw [HNN.out]; exact HOQ.out, HXQ.out⟩, by have := HLT.out; simp [intOf]; omega⟩
    · obtain rfl : i = PL.length := by omega
      have r1 : ¬ (PL.length : Int) < (PL.length : Int) := by omega
      rw [List.take_length, ← HAL.out] at HO hvo
      subst hvo
      have HR := Lib.hid HO.out.re
      have HG := Lib.hid (HX1.out.trans HX.out)
      clear hi hlt HO
      go_wp2
      go_ret
      exact ⟨_, rfl, HR.out, HG.out⟩
end Go.Proofs.Ytcacicgkebcdkaa
