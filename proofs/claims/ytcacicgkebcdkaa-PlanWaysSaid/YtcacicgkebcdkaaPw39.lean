/-
  PlRefW2, packed: what the claim needs of them.
-/
import Derived.Test.YtcacicgkebcdkaaPw38
import Derived.BigRegion
set_option linter.unusedSimpArgs false
set_option linter.unusedVariables false
set_option maxRecDepth 100000
namespace Go.Proofs.Ytcacicgkebcdkaa
open Go.RowKit Go.Ox Go.Ox.Gr Mo
attribute [local irreducible] RE OE NodesR
set_option maxHeartbeats 8000000 in
theorem rway_any (d : Nat) (v : Value) (g : G) (p q : Pl.P2) (w : World) (hv : NodesR d w v g.1) (hok : gOk g = true) (hn : (gPl g).length ≤ 20) (hp : p ∈ gPl g) :
    Calls Try.prog 20 #[gAg v g.2, plV p, plV q] w fun e w' => e = .returned (.tuple #[wV ((Pl.wayM g p q).getD (false, 0)), .bool (Pl.wayM g p q).isSome]) ∧ Ext w w' := by
  have hpl : gPl g = places g.1 := by unfold gPl; rw [if_pos hok]
  have HPL := Lib.hid (fun W (h : Ext w W) => rPlaces_any d v g.1 g.2 W (hv.ext h) (body_le (l := g.1) (out := g.2) hok).1 (body_le (l := g.1) (out := g.2) hok).2)
  rw [← hpl] at HPL
  have HAR := Lib.hid (fun W (h : Ext w W) => rarcs_any d v g W (hv.ext h) hok hn)
  have HAT := Lib.hid (fun u j W (h : RE W u (gPl g)) => rat_any u (gPl g) (Prod.fst j) (Prod.snd j) W h (by omega))
  have HAL := Lib.hid (Pl.arcsL_len hn)
  have HFT := Lib.hid (fun a (ha : a ∈ Pl.arcsL g) => (show a.1.1 ∈ gPl g ∧ a.1.2 ∈ gPl g ∧ 0 ≤ a.2.2 ∧ a.2.2 ≤ 1 from ⟨(Pl.asOk g).fr a ha, (Pl.asOk g).tt a ha, (Pl.asOk g).lo a ha, (Pl.asOk g).hi a ha⟩))
  have HWM := Lib.hid (show Pl.wayM g p = Pl.iter (Pl.arcsL g) p (2 * (gPl g).length + 1) (Pl.M0 p) from rfl)
  have HND := Lib.hid (Pl.gPl_nodup g)
  have HI0 := Lib.hid (fun k => Pl.iter_inv (Pl.asOk g) hn k _ (Pl.inv0 (cs := Pl.arcsL g) hp))
  have HIS := Lib.hid (fun M (h : Pl.Inv (Pl.arcsL g) (gPl g) p M) a (ha : a ∈ Pl.arcsL g) => Pl.rx_inv (Pl.asOk g) hn h ha)
  have HN := Lib.hid (show (gPl g).length ≤ 20 ∧ 1 ≤ (gPl g).length from ⟨hn, List.length_pos_of_mem hp⟩)
  have HP := Lib.hid hp
  have HQI := Lib.hid (fun (h : q ∉ gPl g) => (show Pl.wayM g p q = none from by
    cases hw : Pl.wayM g p q with
    | none => rfl
    | some x => exact absurd ((Pl.wayM_inv hn hp).bnd q x hw).1 h))
  have HQP := Lib.hid (fun (h : q ∈ gPl g) => Pl.posFrom_mem h)
  have HQN := Lib.hid (fun (h : q ∉ gPl g) => posFrom_none (i := 0) h)
  obtain ⟨l, out⟩ := g
  simp only at HPL HAR hv
  generalize Pl.wayM (l, out) p = WM at *
  generalize Pl.arcsL (l, out) = AL at *
  generalize gPl (l, out) = PL at *
  obtain ⟨A, c, rfl⟩ := hv.form
  obtain ⟨p1, p2⟩ := p
  obtain ⟨q1, q2⟩ := q
  have h0 : BW4 ((((w.alloc (gCs (.slice A l.length c) out)).alloc (.cells #[.int .i64 p1, .int .i64 p2] 26)).alloc (.cells #[.int .i64 q1, .int .i64 q2] 26)).alloc (.cells #[.bool false, .int .i64 0] 37)) w.heap.size (.slice A l.length c) out p1 p2 q1 q2 ∧ Ext w ((((w.alloc (gCs (.slice A l.length c) out)).alloc (.cells #[.int .i64 p1, .int .i64 p2] 26)).alloc (.cells #[.int .i64 q1, .int .i64 q2] 26)).alloc (.cells #[.bool false, .int .i64 0] 37)) := BW4.new w (.slice A l.length c) out p1 p2 q1 q2
  have HB0 := Lib.hid h0.1
  have HX0 := Lib.hid h0.2
  clear h0 hv hp hok hn hpl
  go_enter Try.func20, Try.ntmps20
  go_upto_region 1 with fail
  obtain ⟨n, hn⟩ : ∃ n, n = w.heap.size := ⟨_, rfl⟩
  rw [← hn] at HB0 ⊢
  have HPS := Lib.hid (show w.heap.size ≤ n + 1 + 1 + 1 from by omega)
  clear hn
  generalize (((w.alloc (gCs (.slice A l.length c) out)).alloc (.cells #[.int .i64 p1, .int .i64 p2] 26)).alloc (.cells #[.int .i64 q1, .int .i64 q2] 26)).alloc (.cells #[.bool false, .int .i64 0] 37) = w0 at *
  obtain ⟨c0, c1, c2, c3, c4, c5⟩ := HB0.out.cells
  go_wp2_with fail
  refine (HPL.out w0 HX0.out).mono ?_
  rintro e w1 ⟨uv, rfl, huv, he1⟩
  obtain ⟨AV, cV, rfl⟩ := huv.re.form
  have HX1 := Lib.hid (HX0.out.trans he1)
  have HB1 := Lib.hid (HB0.out.ext he1)
  have HV1 := Lib.hid huv.re
  clear huv he1 c0 c1 c2 c3 c4 c5 HX0 HB0 HPL
  obtain ⟨c0, c1, c2, c3, c4, c5⟩ := HB1.out.cells
  go_wp2_with fail
  refine (HAR.out w1 HX1.out).mono ?_
  rintro e w2 ⟨ua, rfl, hua, he2⟩
  obtain ⟨AA, cA, rfl⟩ := hua.form
  have HX2 := Lib.hid (HX1.out.trans he2)
  have HB2 := Lib.hid (HB1.out.ext he2)
  have HV2 := Lib.hid (HV1.out.ext he2)
  have HA2 := Lib.hid hua
  clear hua he2 c0 c1 c2 c3 c4 c5 HX1 HB1 HV1 HAR
  have hn20 : PL.length ≤ 20 := HN.out.1
  go_upto_region 4 with (at_make; refine wpList_mk rfl elemBo _ (.tmp 25) (.tmp 25) rfl PL.length rfl rfl (by omega) (by unfold maxLen; omega) ?_; intro v3 w3 hv3 ho3 he3; subst hv3)
  obtain ⟨cu1, hcu1, hcs1, hcl1⟩ := mk_blk ho3
  go_upto_region 5 with (at_make; refine wpList_mk rfl elemWy _ (.tmp 28) (.tmp 28) rfl PL.length rfl rfl (by omega) (by unfold maxLen; omega) ?_; intro v4 w4 hv4 ho4 he4; subst hv4)
  obtain ⟨cu2, hcu2, hcs2, hcl2⟩ := mk_blk ho4
  have HS0 := Lib.hid (mk0_new (p := (p1, p2)) (hcu1.ext he4) hcs1 hcl1 hcu2 hcs2 hcl2)
  have HBH := Lib.hid (show w2.heap.size ≤ w2.heap.size from Nat.le_refl _)
  have HX4 := Lib.hid (he3.trans he4)
  have hlt3 : w2.heap.size < w3.heap.size := hcu1.lt
  obtain ⟨bh, hbh⟩ : ∃ b, b = w2.heap.size := ⟨_, rfl⟩
  obtain ⟨bw, hbw⟩ : ∃ b, b = w3.heap.size := ⟨_, rfl⟩
  rw [← hbh, ← hbw] at HS0 ⊢
  have hne : bh ≠ bw := by omega
  have HNE := Lib.hid hne
  have HLO := Lib.hid (show w2.heap.size ≤ bh ∧ w2.heap.size ≤ bw from by omega)
  clear hcu1 hcs1 hcl1 hcu2 hcs2 hcl2 ho3 ho4 he3 he4 hlt3 hbh hbw hne HBH
  go_wp2
  go_loopw [12] (fun iv wr => ∃ i : Nat, i ≤ PL.length ∧ iv = .int .i64 (i : Int) ∧ WS2 wr bh bw PL (mk0 PL (p1, p2) i) ∧ Ext w2 wr) (fun iv _ => PL.length - (intOf iv).toNat)
  case atStart => exact ⟨0, Nat.zero_le _, rfl, HS0.out, HX4.out⟩
  case round =>
    obtain ⟨i, hi, rfl, hs, hx⟩ := hrel
    rename World => wr
    have HS := Lib.hid hs
    have HX := Lib.hid hx
    clear hs
    have hi20 : i ≤ 20 := by omega
    by_cases hlt : i < PL.length
    · have r1 : (i : Int) < (PL.length : Int) := by omega
      have r0 : 0 ≤ (i : Int) := by omega
      have HLT := Lib.hid hlt
      obtain ⟨bV, oV, hAV, y0, y1⟩ := rp2 (HV2.out.ext hx) hlt
      obtain ⟨x, hxe⟩ : ∃ x, PL[i] = x := ⟨_, rfl⟩
      obtain ⟨s0, -, -, f0, -, -⟩ := HS.out.get hlt hxe
      have HMK := Lib.hid (mk0_s (p := (p1, p2)) HND.out hlt hxe)
      have HXE := Lib.hid hxe
      replace y0 : wr.cell? ⟨bV, oV + i * 2, none⟩ = some (.int .i64 x.1) := by rw [← hxe]; exact y0
      replace y1 : wr.cell? ⟨bV, oV + i * 2 + 1, none⟩ = some (.int .i64 x.2) := by rw [← hxe]; exact y1
      obtain ⟨x1, x2⟩ := x
      simp only at y0 y1
      subst hAV
      have a2 : wr.cell? ⟨n + 1, 0, none⟩ = some (.int .i64 p1) := (HB2.out.ext hx).p.cell 0
      have a3 : wr.cell? ⟨n + 1, 1, none⟩ = some (.int .i64 p2) := (HB2.out.ext hx).p.cell 1
      have heq := eqPlD x1 x2 p1 p2
      obtain ⟨dd, hdd⟩ : ∃ b, decide ((x1, x2) = (p1, p2)) = b := ⟨_, rfl⟩
      rw [hdd] at heq HMK
      clear hx hlt hi hxe hdd
      generalize (mk0 PL (p1, p2) i (x1, x2)).isSome = hs0 at *
      go_wp2
      refine wp_region_tailY 9 [] [] Ext Ext (fun _ => True) (by kernel_rfl) (by kernel_rfl) (by kernel_rfl) (by kernel_rfl) (by kernel_rfl) (by kernel_rfl) (by kernel_rfl) (by rfl) (by rfl) (by kernel_rfl) (by kernel_rfl) (by kernel_rfl) (fun _ _ _ x y => x.trans y) Ext.refl (fun _ _ x => x) (Ext.refl _).drew (fun _ _ x _ => x) trivial ?_
      repeat (first | (refine wpY_move0 rfl rfl (by first | exact runs0 | exact runs1 rfl) Ext.refl rfl rfl rfl ?_; apply Exists.intro; refine ⟨?_, ?_⟩; · (go_simp; rfl)) | (refine wpY_move rfl rfl (by first | exact runs0 | exact runs1 rfl) Ext.refl rfl rfl rfl (fun _ _ _ h _ => h) ?_) | (refine wpY_val rfl rfl (by first | exact runs0 | exact runs1 rfl) Ext.refl rfl ?_; apply Exists.intro; refine ⟨?_, ?_⟩; · (intro a w' hR; (try (intro h1; try have e1 : _ = _ := h1)); (try (intro h2; try have e2 : _ = _ := h2)); (try (intro h3; try have e3 : _ = _ := h3)); go_simp; rfl)) | (refine wpY_skip rfl rfl (by first | exact .inl rfl | exact .inr rfl) ?_))
      refine wpY_val rfl rfl (by first | exact runs0 | exact runs1 rfl) Ext.refl rfl ?_; apply Exists.intro; refine ⟨?_, ?_⟩
      · intro a w' hR h1
        have e1 : _ = _ := h1
        have hl0 := hR.cell y0
        have hl1 := hR.cell y1
        go_simp
        rfl
      refine wpY_val rfl rfl (by first | exact runs0 | exact runs1 rfl) Ext.refl rfl ?_; apply Exists.intro; refine ⟨?_, ?_⟩
      · intro a w' hR h1
        have e1 : _ = _ := h1
        have hl0 := hR.cell a2
        have hl1 := hR.cell a3
        go_simp
        rfl
      refine wpY_val rfl rfl (by first | exact runs0 | exact runs1 rfl) Ext.refl rfl ?_; apply Exists.intro; refine ⟨?_, ?_⟩
      · intro a w' hR h1 h2
        have e1 : _ = _ := h1
        have e2 : _ = _ := h2
        have hq9 := heq w'
        go_simp
        rfl
      repeat (first | (refine wpY_move0 rfl rfl (by first | exact runs0 | exact runs1 rfl) Ext.refl rfl rfl rfl ?_; apply Exists.intro; refine ⟨?_, ?_⟩; · (go_simp; rfl)) | (refine wpY_move rfl rfl (by first | exact runs0 | exact runs1 rfl) Ext.refl rfl rfl rfl (fun _ _ _ h _ => h) ?_) | (refine wpY_val rfl rfl (by first | exact runs0 | exact runs1 rfl) Ext.refl rfl ?_; apply Exists.intro; refine ⟨?_, ?_⟩; · (intro a w' hR; (try (intro h1; try have e1 : _ = _ := h1)); (try (intro h2; try have e2 : _ = _ := h2)); (try (intro h3; try have e3 : _ = _ := h3)); go_simp; rfl)) | (refine wpY_skip rfl rfl (by first | exact .inl rfl | exact .inr rfl) ?_))
      refine wpY_done ?_
      intro wz hxz hSz
      iterate 9 (rintro _ rfl)
      dsimp only [FinV]
      go_simp
      have hxz : Ext wr wz := hxz
      have HSZ := Lib.hid (HS.out.ext hxz)
      have HXZ := Lib.hid (HX.out.trans hxz)
      obtain ⟨s0, -, -, f0, -, -⟩ := HSZ.out.get HLT.out HXE.out
      clear hxz hSz y0 y1 a2 a3 heq
      simp only [thenTail, List.drop_succ_cons, List.drop_zero]
      go_wp2
      exact ⟨⟨i + 1, HLT.out, by go_num, HSZ.out.mark HNE.out HND.out HLT.out HXE.out HMK.out.1 HMK.out.2.1 HMK.out.2.2, Ext.put HXZ.out HLO.out.1 _⟩, by have := HLT.out; simp [intOf]; omega⟩
    · obtain rfl : i = PL.length := by omega
      have r1 : ¬ (PL.length : Int) < (PL.length : Int) := by omega
      rw [mk0_end HP.out] at HS
      have HX5 := Lib.hid hx
      clear hx hlt hi hi20 HX4 HS0
      rename World => w5
      have u1 : IntKind.i64.wrap (2 * (PL.length : Int)) = 2 * (PL.length : Int) := IntWalk.i64_in _ (by omega)
      go_wp2
      go_loopw [13] (fun pv wr => ∃ k : Nat, k ≤ 2 * PL.length + 1 ∧ pv = .int .i64 (k : Int) ∧ WS2 wr bh bw PL (Pl.iter AL (p1, p2) k (Pl.M0 (p1, p2))) ∧ Ext w2 wr) (fun pv _ => 2 * PL.length + 1 - (intOf pv).toNat)
      case atStart => exact ⟨0, Nat.zero_le _, rfl, HS.out, HX5.out⟩
      case round =>
        obtain ⟨ps, hps, rfl, hs, hx⟩ := hrel
        rename World => wr
        have HSP := Lib.hid hs
        have HXP := Lib.hid hx
        have HIP := Lib.hid (HI0.out ps)
        have HPS2 := Lib.hid (show Pl.iter AL (p1, p2) (ps + 1) (Pl.M0 (p1, p2)) = AL.foldl (Pl.rx (p1, p2)) (Pl.iter AL (p1, p2) ps (Pl.M0 (p1, p2))) from rfl)
        generalize hMp : Pl.iter AL (p1, p2) ps (Pl.M0 (p1, p2)) = Mp at *
        have hps50 : ps ≤ 50 := by omega
        clear hs hx
        by_cases hpl : ps ≤ 2 * PL.length
        · have r1 : (ps : Int) ≤ 2 * (PL.length : Int) := by omega
          have HPLE := Lib.hid hpl
          clear hpl hps hMp
          go_wp2
          go_loopw [14] (fun kv wq => ∃ k : Nat, k ≤ AL.length ∧ kv = .int .i64 (k : Int) ∧ WS2 wq bh bw PL ((AL.take k).foldl (Pl.rx (p1, p2)) Mp) ∧ Pl.Inv AL PL (p1, p2) ((AL.take k).foldl (Pl.rx (p1, p2)) Mp) ∧ Ext w2 wq) (fun kv _ => AL.length - (intOf kv).toNat)
          case atStart => exact ⟨0, Nat.zero_le _, rfl, HSP.out, HIP.out, HXP.out⟩
          case round =>
            obtain ⟨k, hk, rfl, hs, hin, hxq⟩ := hrel
            rename World => wq
            have HAB := HAL.out
            have hk9 : (k : Int) ≤ 400 := by omega
            have HXQ := Lib.hid hxq
            by_cases hkl : k < AL.length
            · have r2 : (k : Int) < (AL.length : Int) := by omega
              have r20 : 0 ≤ (k : Int) := by omega
              have HKL := Lib.hid hkl
              obtain ⟨M, hM⟩ : ∃ M, (AL.take k).foldl (Pl.rx (p1, p2)) Mp = M := ⟨_, rfl⟩
              rw [hM] at hs hin
              have HMS := Lib.hid (show (AL.take (k + 1)).foldl (Pl.rx (p1, p2)) Mp = Pl.rx (p1, p2) M AL[k] from by rw [List.take_succ_eq_append_getElem hkl, List.foldl_append, hM]; rfl)
              have HINV := Lib.hid hin
              have HSQ := Lib.hid hs
              have HINV2 := Lib.hid (HIS.out M hin AL[k] (List.getElem_mem hkl))
              have HFA := Lib.hid (HFT.out AL[k] (List.getElem_mem hkl))
              obtain ⟨bA, oA, hAA, hcA⟩ := RE.at_ (HA2.out.ext hxq) hkl
              generalize AL[k] = y at *
              obtain ⟨⟨⟨f1, f2⟩, t1, t2⟩, sw, ad⟩ := y
              have k0 : wq.cell? ⟨bA, oA + k * 6, none⟩ = some (.int .i64 f1) := hcA 0 _ rfl
              have k1 : wq.cell? ⟨bA, oA + k * 6 + 1, none⟩ = some (.int .i64 f2) := hcA 1 _ rfl
              have k2 : wq.cell? ⟨bA, oA + k * 6 + 2, none⟩ = some (.int .i64 t1) := hcA 2 _ rfl
              have k3 : wq.cell? ⟨bA, oA + k * 6 + 3, none⟩ = some (.int .i64 t2) := hcA 3 _ rfl
              have k4 : wq.cell? ⟨bA, oA + k * 6 + 4, none⟩ = some (.bool sw) := hcA 4 _ rfl
              have k5 : wq.cell? ⟨bA, oA + k * 6 + 5, none⟩ = some (.int .i64 ad) := hcA 5 _ rfl
              subst hAA
              simp only at HFA
              obtain ⟨jf, hjf, hpf, hef⟩ := Pl.posFrom_mem HFA.out.1
              obtain ⟨jt, hjt, hpt, het⟩ := Pl.posFrom_mem HFA.out.2.1
              have HCF := Lib.hid (fun W (hW : Ext wq W) => HAT.out (.slice AV PL.length cV) (f1, f2) W ((HV2.out.ext hxq).ext hW))
              have HCT := Lib.hid (fun W (hW : Ext wq W) => HAT.out (.slice AV PL.length cV) (t1, t2) W ((HV2.out.ext hxq).ext hW))
              rw [hpf] at HCF
              rw [hpt] at HCT
              have HJF := Lib.hid hjf
              have HJT := Lib.hid hjt
              have HEF := Lib.hid hef
              have HET := Lib.hid het
              clear hcA hs hin hM hkl hk hxq hpf hpt hef het
              go_wp2
              refine wp_regionY [] [] Ext Ext (fun _ => True) (by kernel_rfl) (by rfl) (by rfl) (by kernel_rfl) (by kernel_rfl) (by kernel_rfl) (fun _ _ _ x y => x.trans y) Ext.refl (fun _ _ x => x) (Ext.refl _).drew (fun _ _ x _ => x) trivial ?_
              repeat (first | (refine wpY_move0 rfl rfl (by first | exact runs0 | exact runs1 rfl) Ext.refl rfl rfl rfl ?_; apply Exists.intro; refine ⟨?_, ?_⟩; · (go_simp; rfl)) | (refine wpY_move rfl rfl (by first | exact runs0 | exact runs1 rfl) Ext.refl rfl rfl rfl (fun _ _ _ h _ => h) ?_) | (refine wpY_val rfl rfl (by first | exact runs0 | exact runs1 rfl) Ext.refl rfl ?_; apply Exists.intro; refine ⟨?_, ?_⟩; · (intro a w' hR; (try (intro h1; try have e1 : _ = _ := h1)); (try (intro h2; try have e2 : _ = _ := h2)); (try (intro h3; try have e3 : _ = _ := h3)); go_simp; rfl)) | (refine wpY_skip rfl rfl (by first | exact .inl rfl | exact .inr rfl) ?_))
              refine wpY_val rfl rfl (by first | exact runs0 | exact runs1 rfl) Ext.refl rfl ?_; apply Exists.intro; refine ⟨?_, ?_⟩
              · intro a w' hR h1
                have e1 : _ = _ := h1
                have hl0 := hR.cell k0
                have hl1 := hR.cell k1
                go_simp
                rfl
              refine wpY_call (fun v _ => v = .int .i64 (jf : Int)) rfl rfl (by first | exact runs0 | exact runs1 rfl) rfl (by exact mono_eq) ?_ ?_
              · intro a w' hR h1 h2 K hK
                have e1 : _ = _ := h1
                have e2 : _ = _ := h2
                go_simp
                refine (HCF.out w' hR).mono ?_
                rintro e w2 ⟨rfl, he⟩
                exact hK _ _ he rfl
              repeat (first | (refine wpY_move0 rfl rfl (by first | exact runs0 | exact runs1 rfl) Ext.refl rfl rfl rfl ?_; apply Exists.intro; refine ⟨?_, ?_⟩; · (go_simp; rfl)) | (refine wpY_move rfl rfl (by first | exact runs0 | exact runs1 rfl) Ext.refl rfl rfl rfl (fun _ _ _ h _ => h) ?_) | (refine wpY_val rfl rfl (by first | exact runs0 | exact runs1 rfl) Ext.refl rfl ?_; apply Exists.intro; refine ⟨?_, ?_⟩; · (intro a w' hR; (try (intro h1; try have e1 : _ = _ := h1)); (try (intro h2; try have e2 : _ = _ := h2)); (try (intro h3; try have e3 : _ = _ := h3)); go_simp; rfl)) | (refine wpY_skip rfl rfl (by first | exact .inl rfl | exact .inr rfl) ?_))
              refine wpY_val rfl rfl (by first | exact runs0 | exact runs1 rfl) Ext.refl rfl ?_; apply Exists.intro; refine ⟨?_, ?_⟩
              · intro a w' hR h1
                have e1 : _ = _ := h1
                have hl0 := hR.cell k2
                have hl1 := hR.cell k3
                go_simp
                rfl
              refine wpY_call (fun v _ => v = .int .i64 (jt : Int)) rfl rfl (by first | exact runs0 | exact runs1 rfl) rfl (by exact mono_eq) ?_ ?_
              · intro a w' hR h1 h2 K hK
                have e1 : _ = _ := h1
                have e2 : _ = _ := h2
                go_simp
                refine (HCT.out w' hR).mono ?_
                rintro e w2 ⟨rfl, he⟩
                exact hK _ _ he rfl
              repeat (first | (refine wpY_move0 rfl rfl (by first | exact runs0 | exact runs1 rfl) Ext.refl rfl rfl rfl ?_; apply Exists.intro; refine ⟨?_, ?_⟩; · (go_simp; rfl)) | (refine wpY_move rfl rfl (by first | exact runs0 | exact runs1 rfl) Ext.refl rfl rfl rfl (fun _ _ _ h _ => h) ?_) | (refine wpY_val rfl rfl (by first | exact runs0 | exact runs1 rfl) Ext.refl rfl ?_; apply Exists.intro; refine ⟨?_, ?_⟩; · (intro a w' hR; (try (intro h1; try have e1 : _ = _ := h1)); (try (intro h2; try have e2 : _ = _ := h2)); (try (intro h3; try have e3 : _ = _ := h3)); go_simp; rfl)) | (refine wpY_skip rfl rfl (by first | exact .inl rfl | exact .inr rfl) ?_))
              refine wpY_done ?_
              intro w6 hx6 hS6
              iterate 16 (rintro _ rfl)
              dsimp only [FinV]
              go_simp
              have hx6 : Ext wq w6 := hx6
              have k0 := hx6.cell k0
              have k1 := hx6.cell k1
              have k2 := hx6.cell k2
              have k3 := hx6.cell k3
              have k4 := hx6.cell k4
              have k5 := hx6.cell k5
              have HS6 := Lib.hid (HSQ.out.ext hx6)
              have HX6 := Lib.hid (HXQ.out.trans hx6)
              clear hx6 hS6 HCF HCT HSQ HXQ
              have jf1 : (jf : Int) < (PL.length : Int) := by have := HJF.out; omega
              have jf0 : 0 ≤ (jf : Int) := by omega
              have jt1 : (jt : Int) < (PL.length : Int) := by have := HJT.out; omega
              have jt0 : 0 ≤ (jt : Int) := by omega
              obtain ⟨s0, s1, s2, -, -, -⟩ := HS6.out.get HJF.out HEF.out
              cases hMf : M (f1, f2) with
              | none =>
                rw [hMf] at s0 s1 s2
                have HR := Lib.hid (show (AL.take (k + 1)).foldl (Pl.rx (p1, p2)) Mp = M from by rw [HMS.out]; unfold Pl.rx; rw [hMf])
                simp only [Option.isSome_none, Option.getD_none] at s0 s1 s2
                clear hMf HINV2
                go_wp2
                exact ⟨⟨k + 1, HKL.out, by go_num, by rw [HR.out]; exact HS6.out, by rw [HR.out]; exact HINV.out, HX6.out⟩, by have := HKL.out; simp [intOf]; omega⟩
              | some x =>
                rw [hMf] at s0 s1 s2
                simp only [Option.isSome_some, Option.getD_some] at s0 s1 s2
                have HXB := Lib.hid (HINV.out.bnd _ _ hMf)
                have HCN := Lib.hid (Pl.cnt_le PL M)
                have HTH := Lib.hid (fun W => rthen_any x (sw, ad) W)
                rw [thenW_ok (x := x) (a := (sw, ad)) (by have h1 := HXB.out; have h2 := HCN.out; omega) ⟨HFA.out.2.2.1, HFA.out.2.2.2⟩] at HTH
                have HRX := Lib.hid (show Pl.rx (p1, p2) M ((((f1, f2), (t1, t2)), (sw, ad)) : Pl.Ar) = if Pl.better M (p1, p2) (t1, t2) (Pl.thn x (sw, ad)) then Pl.upd M (t1, t2) (Pl.thn x (sw, ad)) else M from by unfold Pl.rx; simp only; rw [hMf])
                generalize hnw : Pl.thn x (sw, ad) = nw at *
                obtain ⟨n1, n2⟩ := nw
                obtain ⟨x1, x2⟩ := x
                clear hMf hnw
                simp only at s1 s2 HTH
                have g0 : w6.cell? ⟨n, 0, none⟩ = some (.slice A l.length c) := (HB2.out.ext HX6.out).g.cell 0
                have hbw := HS6.out.lt.2
                have hbh := HS6.out.lt.1
                have HBL := Lib.hid (⟨hbh, hbw⟩ : bh < w6.heap.size ∧ bw < w6.heap.size)
                have hbA := World.block_lt_of_cell? w6 _ k0
                simp only at hbA
                have hbw1 : ¬ bw = w6.heap.size := by omega
                have hbA1 : ¬ bA = w6.heap.size := by omega
                clear g0
                go_upto_region 17 with fail
                go_cut [17] (fun s17 wx => ∃ n7, s17 = .pointer (some ⟨n7, 0, none⟩) ∧ Blk wx n7 37 #[.bool n1, .int .i64 n2] ∧ Ext w6 wx ∧ bh < n7 ∧ bw < n7)
                case first =>
                  clear HMS HINV HINV2 HFA HAT HAL HFT HWM HND HI0 HIS HP HQI HQP HQN HB2 HX2 HV2 HA2 HNE HLO HPS2 HIP HSP HXP HS6 HX6 HRX HXB HCN HKL HJF HJT HEF HET HX5 HS
                  go_region_with (go_at_call 48; refine (HTH.out _).mono ?_; rintro e w8 ⟨rfl, he8⟩; try (have HBN := Lib.hid (((Blk.new w6 37 #[.bool false, .int .i64 0]).ext (Ext.refl _).drew).ext he8); have b0 := HBN.out.cell 0; have b1 := HBN.out.cell 1; have f0 := HBN.out.frozen 0; have f1 := HBN.out.frozen 1; have t0 := fun u => (HBN.out.set_ 0 u).frozen 1; have t1 := fun u => (HBN.out.set_ 0 u).cell 1))
                  all_goals go_wp2
                  all_goals go_meet
                  all_goals first
                    | exact ⟨_, rfl, Blk.fill2 HBN.out (.bool n1) (.int .i64 n2), (res2 HBN.out (((Ext.refl w6).alloc _).drew.trans he8) (Nat.le_refl _) (.bool n1) (.int .i64 n2)).2.2, HBL.out.1, HBL.out.2⟩
                    | exact ⟨_, rfl, Blk.new w8 37 #[.bool n1, .int .i64 n2], ((Ext.refl w6).drew.trans he8).alloc _, Nat.lt_of_lt_of_le HBL.out.1 ((Ext.refl w6).drew.trans he8).size, Nat.lt_of_lt_of_le HBL.out.2 ((Ext.refl w6).drew.trans he8).size⟩
                case rest =>
                obtain ⟨n7, rfl, hb7, hx7, hn71, hn72⟩ := hcut
                have HN7 := Lib.hid (⟨hn71, hn72⟩ : bh < n7 ∧ bw < n7)
                clear hn71 hn72
                rename World => w7
                have d0 : w7.cell? ⟨n7, 0, none⟩ = some (.bool n1) := hb7.cell 0
                have d1 : w7.cell? ⟨n7, 1, none⟩ = some (.int .i64 n2) := hb7.cell 1
                have HS7 := Lib.hid (HS6.out.ext hx7)
                have HX7 := Lib.hid (HX6.out.trans hx7)
                have HB7 := Lib.hid (HB2.out.ext HX7.out)
                have HV7 := Lib.hid (HV2.out.ext HX7.out)
                clear hb7 hx7 k0 k1 k2 k3 k4 k5 s0 s1 s2 hbw hbh hbA hbw1 hbA1 HTH HS6 HX6 HBL
                obtain ⟨s0, s1, s2, f0, f1, f2⟩ := HS7.out.get HJT.out HET.out
                obtain ⟨bV, oV, hAV, y0, y1⟩ := rp2 HV7.out HJT.out
                replace y0 : w7.cell? ⟨bV, oV + jt * 2, none⟩ = some (.int .i64 t1) := by have h9 : PL[jt]'HJT.out = (t1, t2) := HET.out; rw [show t1 = (t1, t2).1 from rfl, ← h9]; exact y0
                replace y1 : w7.cell? ⟨bV, oV + jt * 2 + 1, none⟩ = some (.int .i64 t2) := by have h9 : PL[jt]'HJT.out = (t1, t2) := HET.out; rw [show t2 = (t1, t2).2 from rfl, ← h9]; exact y1
                subst hAV
                have a2 : w7.cell? ⟨n + 1, 0, none⟩ = some (.int .i64 p1) := HB7.out.p.cell 0
                have a3 : w7.cell? ⟨n + 1, 1, none⟩ = some (.int .i64 p2) := HB7.out.p.cell 1
                obtain ⟨bt, hbt⟩ : ∃ b, Pl.bet M (p1, p2) (t1, t2) (n1, n2) = b := ⟨_, rfl⟩
                have HBT := Lib.hid hbt
                go_upto_region 18 with fail
                go_cut [134] (fun s134 wx => s134 = .bool bt ∧ Ext w7 wx)
                case first =>
                  have hnq := nePlD t1 t2 p1 p2
                  have HBE := Lib.hid (show bt = (!decide ((t1, t2) = (p1, p2)) && (!(M (t1, t2)).isSome || (decide (n2 < ((M (t1, t2)).getD (false, 0)).2) || (decide (n2 = ((M (t1, t2)).getD (false, 0)).2) && (n1 && !((M (t1, t2)).getD (false, 0)).1))))) from hbt.symm.trans (bet_eq M _ _ _))
                  clear hbt HBT HMS HINV HINV2 HFA HAT HAL HFT HWM HND HI0 HIS HP HQI HQP HQN HB2 HX2 HV2 HA2 HNE HLO HPS2 HIP HSP HXP HS7 HX7 HRX HXB HCN HKL HJF HJT HEF HET HX5 HS HB7 HV7 f0 f1 f2
                  generalize (M (t1, t2)).isSome = hs9 at *
                  generalize (M (t1, t2)).getD (false, 0) = g9 at *
                  obtain ⟨g1, g2⟩ := g9
                  simp only at s1 s2 HBE
                  generalize hd9 : decide ((t1, t2) = (p1, p2)) = d9 at *
                  clear hd9
                  cases d9 with
                  | true =>
                    have HRB := Lib.hid (show bt = false from by rw [HBE.out]; rfl)
                    clear HBE
                    go_region
                    all_goals go_wp2
                    all_goals go_meet
                    all_goals exact ⟨by (rw [HRB.out]; try rfl), by first | exact Ext.refl _ | exact (Ext.refl _).drew⟩
                  | false =>
                    cases hs9 with
                    | false =>
                      have HRB := Lib.hid (show bt = true from by rw [HBE.out]; rfl)
                      clear HBE
                      go_region
                      all_goals go_wp2
                      all_goals go_meet
                      all_goals exact ⟨by (rw [HRB.out]; try rfl), by first | exact Ext.refl _ | exact (Ext.refl _).drew⟩
                    | true =>
                      by_cases hl9 : n2 < g2
                      · have HRB := Lib.hid (show bt = true from by rw [HBE.out, decide_eq_true hl9]; rfl)
                        clear HBE
                        go_region
                        all_goals go_wp2
                        all_goals go_meet
                        all_goals exact ⟨by (rw [HRB.out]; try rfl), by first | exact Ext.refl _ | exact (Ext.refl _).drew⟩
                      · by_cases he9 : n2 = g2
                        · subst he9
                          have hee : ((n2 : Int) == n2) = true := by simp
                          have HRB := Lib.hid (show bt = (n1 && !g1) from by rw [HBE.out, decide_eq_false hl9]; simp)
                          clear HBE
                          cases n1 with
                          | false =>
                            go_region
                            all_goals go_wp2
                            all_goals go_meet
                            all_goals exact ⟨by (rw [HRB.out]; try rfl), by first | exact Ext.refl _ | exact (Ext.refl _).drew⟩
                          | true =>
                            go_region
                            all_goals go_wp2
                            all_goals go_meet
                            all_goals exact ⟨by (rw [HRB.out]; try simp), by first | exact Ext.refl _ | exact (Ext.refl _).drew⟩
                        · have hee : ((n2 : Int) == g2) = false := by simpa using he9
                          have HRB := Lib.hid (show bt = false from by rw [HBE.out, decide_eq_false hl9, decide_eq_false he9]; rfl)
                          clear HBE he9
                          go_region
                          all_goals go_wp2
                          all_goals go_meet
                          all_goals exact ⟨by (rw [HRB.out]; try rfl), by first | exact Ext.refl _ | exact (Ext.refl _).drew⟩
                case rest =>
                obtain ⟨rfl, hx9⟩ := hcut
                rename World => w9
                have HS9 := Lib.hid (HS7.out.ext hx9)
                have HX9 := Lib.hid (HX7.out.trans hx9)
                have d0 := hx9.cell d0
                have d1 := hx9.cell d1
                have hln := World.block_lt_of_cell? w9 _ d0
                clear hx9 s0 s1 s2 f0 f1 f2 y0 y1 a2 a3 hbt HB7 HV7 hln
                cases bt with
                | false =>
                  have HR := Lib.hid (show (AL.take (k + 1)).foldl (Pl.rx (p1, p2)) Mp = M from by rw [HMS.out, HRX.out, if_neg (by have := HBT.out; unfold Pl.bet at this; simpa using this)])
                  go_wp2
                  exact ⟨⟨k + 1, HKL.out, by go_num, by rw [HR.out]; exact HS9.out, by rw [HR.out]; exact HINV.out, HX9.out⟩, by have := HKL.out; simp [intOf]; omega⟩
                | true =>
                  have HR := Lib.hid (show (AL.take (k + 1)).foldl (Pl.rx (p1, p2)) Mp = Pl.upd M (t1, t2) (n1, n2) from by rw [HMS.out, HRX.out, if_pos (by have := HBT.out; unfold Pl.bet at this; simpa using this)])
                  rw [← HMS.out, HR.out] at HINV2
                  obtain ⟨s0, s1, s2, f0, f1, f2⟩ := HS9.out.get HJT.out HET.out
                  have g1 := HNE.out
                  have g2 := g1.symm
                  have g3 : ¬ n7 = bh := by have := HN7.out; omega
                  have g4 : ¬ n7 = bw := by have := HN7.out; omega
                  have g5 : ¬ bh = n7 := by omega
                  have g6 : ¬ bw = n7 := by omega
                  go_upto_region 19 with fail
                  go_region
                  all_goals go_wp2
                  all_goals first
                    | exact ⟨⟨k + 1, HKL.out, by go_num, by rw [HR.out]; exact (HS9.out.put HNE.out HND.out HJT.out HET.out (n1, n2)).1, by rw [HR.out]; exact HINV2.out, Ext.put (Ext.put (Ext.put HX9.out HLO.out.1 _) HLO.out.2 _) HLO.out.2 _⟩, by have := HKL.out; simp [intOf]; omega⟩
                    | exact ⟨⟨k + 1, HKL.out, by go_num, by rw [HR.out]; exact (HS9.out.put HNE.out HND.out HJT.out HET.out (n1, n2)).2, by rw [HR.out]; exact HINV2.out, Ext.put (Ext.put (Ext.put HX9.out HLO.out.2 _) HLO.out.2 _) HLO.out.1 _⟩, by have := HKL.out; simp [intOf]; omega⟩
                    | exact ⟨⟨k + 1, HKL.out, by go_num, by rw [HR.out]; exact ((HS9.out.ext (Ext.refl _).drew).put HNE.out HND.out HJT.out HET.out (n1, n2)).1, by rw [HR.out]; exact HINV2.out, Ext.put (Ext.put (Ext.put HX9.out.drew HLO.out.1 _) HLO.out.2 _) HLO.out.2 _⟩, by have := HKL.out; simp [intOf]; omega⟩
                    | exact ⟨⟨k + 1, HKL.out, by go_num, by rw [HR.out]; exact ((HS9.out.ext (Ext.refl _).drew).put HNE.out HND.out HJT.out HET.out (n1, n2)).2, by rw [HR.out]; exact HINV2.out, Ext.put (Ext.put (Ext.put HX9.out.drew HLO.out.2 _) HLO.out.2 _) HLO.out.1 _⟩, by have := HKL.out; simp [intOf]; omega⟩
            · obtain rfl : k = AL.length := by omega
              have r2 : ¬ (AL.length : Int) < (AL.length : Int) := by omega
              rw [List.take_length, ← HPS2.out] at hs
              have HSE := Lib.hid hs
              clear hs hin hkl hk hxq
              go_wp2
              exact ⟨⟨ps + 1, by have := HPLE.out; omega, by go_num, HSE.out, HXQ.out⟩, by have := HPLE.out; simp [intOf]; omega⟩
        · obtain rfl : ps = 2 * PL.length + 1 := by omega
          have r1 : ¬ (((2 * PL.length + 1 : Nat) : Int)) ≤ 2 * (PL.length : Int) := by omega
          rw [← hMp, ← HWM.out] at HSP
          have HB9 := Lib.hid (HB2.out.ext HXP.out)
          have HV9 := Lib.hid (HV2.out.ext HXP.out)
          have HXR := Lib.hid (HX2.out.trans HXP.out)
          clear hpl hps hMp HIP HPS2 hps50
          rename World => wf
          have c4 : wf.cell? ⟨n + 1 + 1, 0, none⟩ = some (.int .i64 q1) := HB9.out.q.cell 0
          have c5 : wf.cell? ⟨n + 1 + 1, 1, none⟩ = some (.int .i64 q2) := HB9.out.q.cell 1
          obtain ⟨pp, hpp⟩ : ∃ pp, pp = 2 * PL.length + 1 := ⟨_, rfl⟩
          rw [← hpp] at r1 ⊢
          clear hpp
          go_wp2_with fail
          refine (HAT.out (.slice AV PL.length cV) (q1, q2) wf HV9.out).mono ?_
          rintro e wg ⟨rfl, heg⟩
          have HSG := Lib.hid (HSP.out.ext heg)
          have HXG := Lib.hid (HXR.out.trans heg)
          have HRG := Lib.hid (HB9.out.ext heg).r
          clear heg c4 c5 HSP HXR HB9 HV9
          obtain ⟨nr, hnr⟩ : ∃ k, k = n + 1 + 1 + 1 := ⟨_, rfl⟩
          rw [← hnr] at HPS HRG ⊢
          clear hnr
          rename World => wz
          have s0 := HRG.out.cell 0
          have s1 := HRG.out.cell 1
          have f0 := HRG.out.frozen 0
          have f1 := HRG.out.frozen 1
          have t0 := fun u => (HRG.out.set_ 0 u).frozen 1
          have t1 := fun u => (HRG.out.set_ 0 u).cell 1
          by_cases hqm : (q1, q2) ∈ PL
          · obtain ⟨jq, hjq, hpq, heq⟩ := HQP.out hqm
            simp only
            rw [hpq]
            have HJQ := Lib.hid hjq
            obtain ⟨z0, z1, z2, -, -, -⟩ := HSG.out.get hjq heq
            have jq1 : (jq : Int) < (PL.length : Int) := by omega
            have jq0 : 0 ≤ (jq : Int) := by omega
            have jqn : ¬ (jq : Int) < 0 := by omega
            clear hjq hpq heq hqm
            cases hW : WM (q1, q2) with
            | none =>
              rw [hW] at z0 z1 z2
              simp only [Option.isSome_none, Option.getD_none] at z0 z1 z2
              have HW9 := Lib.hid hW
              clear hW
              go_wp2
              obtain ⟨y0, y1, hy⟩ := res2 HRG.out HXG.out HPS.out (.bool false) (.int .i64 0)
              generalize ((wz.setCell ⟨nr, 0, none⟩ (.bool false)).setCell ⟨nr, 1, none⟩ (.int .i64 0)) = wr9 at *
              exact bodyPost_ret (v := .tuple #[.agg #[.bool false, .int .i64 0], .bool false]) (by simp [results, Try.results20, go_sem, y0, y1]) rfl ⟨by rw [HW9.out]; rfl, hy⟩
            | some x =>
              rw [hW] at z0 z1 z2
              obtain ⟨x1, x2⟩ := x
              simp only [Option.isSome_some, Option.getD_some] at z0 z1 z2
              have HW9 := Lib.hid hW
              clear hW
              go_wp2
              obtain ⟨y0, y1, hy⟩ := res2 HRG.out HXG.out HPS.out (.bool x1) (.int .i64 x2)
              generalize ((wz.setCell ⟨nr, 0, none⟩ (.bool x1)).setCell ⟨nr, 1, none⟩ (.int .i64 x2)) = wr9 at *
              exact bodyPost_ret (v := .tuple #[.agg #[.bool x1, .int .i64 x2], .bool true]) (by simp [results, Try.results20, go_sem, y0, y1]) rfl ⟨by rw [HW9.out]; rfl, hy⟩
          · simp only
            rw [HQN.out hqm]
            have HWN := Lib.hid (HQI.out hqm)
            clear hqm
            go_wp2
            obtain ⟨y0, y1, hy⟩ := res2 HRG.out HXG.out HPS.out (.bool false) (.int .i64 0)
            generalize ((wz.setCell ⟨nr, 0, none⟩ (.bool false)).setCell ⟨nr, 1, none⟩ (.int .i64 0)) = wr9 at *
            exact bodyPost_ret (v := .tuple #[.agg #[.bool false, .int .i64 0], .bool false]) (by simp [results, Try.results20, go_sem, y0, y1]) rfl ⟨by rw [HWN.out]; rfl, hy⟩
end Go.Proofs.Ytcacicgkebcdkaa
