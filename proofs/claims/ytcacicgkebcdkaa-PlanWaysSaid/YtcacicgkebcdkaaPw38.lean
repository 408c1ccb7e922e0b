/-
  PlRef3, PlLawM, PlRefW, packed: what the claim needs of them.
-/
import Derived.Test.YtcacicgkebcdkaaPw36
import Derived.Test.YtcacicgkebcdkaaPw34
import Derived.Test.YtcacicgkebcdkaaPw31
set_option linter.unusedSimpArgs false
set_option linter.unusedVariables false
set_option maxRecDepth 100000
namespace Go.Proofs.Ytcacicgkebcdkaa
open Go.RowKit Go.Ox Go.Ox.Gr Mo
attribute [local irreducible] RE OE NodesR
set_option maxHeartbeats 8000000 in
theorem rarcs_any (d : Nat) (v : Value) (g : G) (w : World) (hv : NodesR d w v g.1) (hok : gOk g = true) (hn : (gPl g).length ≤ 20) :
    Calls Try.prog 14 #[gAg v g.2] w fun e w' => ∃ u, e = .returned u ∧ RE w' u (Pl.arcsL g) ∧ Ext w w' := by
  have hpl : gPl g = places g.1 := by unfold gPl; rw [if_pos hok]
  have HPL := Lib.hid (fun W (h : Ext w W) => rPlaces_any d v g.1 g.2 W (hv.ext h) (body_le (l := g.1) (out := g.2) hok).1 (body_le (l := g.1) (out := g.2) hok).2)
  rw [← hpl] at HPL
  have HAC := Lib.hid (fun p q W (h : Ext w W) (hp : p ∈ gPl g) => rarc_any d v g p q W (hv.ext h) hok hp)
  have HAL := Lib.hid (show Pl.arcsL g = (gPl g).flatMap (Pl.arcsR g) from rfl)
  have HRR := Lib.hid (fun p => Pl.arcsR_eq g p)
  have HR1 := Lib.hid (fun p q => (show Pl.arcR1 g p q = (Pl.arcF g p q).map fun w => (((p, q), w) : Pl.Ar) from rfl))
  have HRL := Lib.hid (fun p => Pl.arcsR_len g p)
  have HN := Lib.hid hn
  obtain ⟨l, out⟩ := g
  simp only at HPL HAC hv
  generalize Pl.arcsL (l, out) = AL at *
  generalize Pl.arcsR (l, out) = AR at *
  generalize Pl.arcR1 (l, out) = A1 at *
  generalize Pl.arcF (l, out) = AF at *
  generalize gPl (l, out) = PL at *
  obtain ⟨A, c, rfl⟩ := hv.form
  have HX0 := Lib.hid ((Ext.refl w).alloc (gCs (.slice A l.length c) out))
  have HB0 := Lib.hid (Blk.new w 24 #[.slice A l.length c, .int .i64 out])
  clear hv hok hn hpl
  go_enter Try.func14, Try.ntmps14
  go_upto_region 1 with fail
  obtain ⟨p, hp⟩ : ∃ p, p = w.heap.size := ⟨_, rfl⟩
  rw [← hp] at HB0 ⊢
  clear hp
  generalize w.alloc (gCs (.slice A l.length c) out) = w0 at *
  have c0 : w0.cell? ⟨p, 0, none⟩ = some (.slice A l.length c) := HB0.out.cell 0
  have c1 : w0.cell? ⟨p, 1, none⟩ = some (.int .i64 out) := HB0.out.cell 1
  go_wp2_with fail
  refine (HPL.out w0 HX0.out).mono ?_
  rintro e w1 ⟨uv, rfl, huv, he1⟩
  obtain ⟨AV, cV, rfl⟩ := huv.re.form
  have HX1 := Lib.hid (HX0.out.trans he1)
  have HB1 := Lib.hid (HB0.out.ext he1)
  have HV1 := Lib.hid huv.re
  have HPP := Lib.hid (show p < w1.heap.size from HB1.out.lt)
  clear huv he1 c0 c1 HPL
  go_wp2
  go_loopw [3, 5] (fun o iv wr => ∃ i : Nat, i ≤ PL.length ∧ iv = .int .i64 (i : Int) ∧ OE 39 w1.heap.size wr o ((PL.take i).flatMap AR) ∧ Ext w1 wr) (fun _ iv _ => PL.length - (intOf iv).toNat)
  case atStart => exact ⟨0, Nat.zero_le _, rfl, by simpa using OE.nilS _ _ _, Ext.refl _⟩
  case round =>
    obtain ⟨i, hi, rfl, ho, hx⟩ := hrel
    rename World => wr
    have HI2 := Lib.hid (show i ≤ 20 from by have := HN.out; omega)
    have HO := Lib.hid ho
    have HX := Lib.hid hx
    obtain ⟨AO, cO, hvo⟩ := ho.re.form
    clear ho hx
    by_cases hlt : i < PL.length
    · have r1 : (i : Int) < (PL.length : Int) := by omega
      have HLT := Lib.hid hlt
      obtain ⟨x, hx⟩ : ∃ x, x = PL[i] := ⟨_, rfl⟩
      have HFK1 := Lib.hid (show (PL.take (i + 1)).flatMap AR = (PL.take i).flatMap AR ++ AR x from by rw [hx]; exact Pl.flatk AR PL hlt)
      have HPI := Lib.hid (show PL[i]? = some x from by rw [List.getElem?_eq_getElem hlt]; exact congrArg some hx.symm)
      have HXM := Lib.hid (show x ∈ PL from by rw [hx]; exact List.getElem_mem hlt)
      have HARX := Lib.hid (HRR.out x)
      have HFL := Lib.hid (show ((PL.take i).flatMap AR).length ≤ 400 from by
        have h1 := Pl.flat_le AR 20 (PL.take i) fun a _ => by have := HRL.out a; have := HN.out; omega
        have h2 : (PL.take i).length ≤ 20 := by rw [List.length_take]; have := HN.out; omega
        omega)
      generalize (PL.take i).flatMap AR = FK at *
      subst hvo
      clear hlt hx hi
      go_wp2
      go_loopw [3, 6] (fun o kv wq => ∃ k : Nat, k ≤ PL.length ∧ kv = .int .i64 (k : Int) ∧ OE 39 w1.heap.size wq o (FK ++ (PL.take k).filterMap (A1 x)) ∧ Ext w1 wq) (fun _ kv _ => PL.length - (intOf kv).toNat)
      case atStart => exact ⟨0, Nat.zero_le _, rfl, by simpa using HO.out, HX.out⟩
      case round =>
        obtain ⟨k, hk, rfl, ho, hxq⟩ := hrel
        rename World => wq
        have HOQ := Lib.hid ho
        have HXQ := Lib.hid hxq
        obtain ⟨AQ, cQ, hvq⟩ := ho.re.form
        clear ho
        have hk20 : k ≤ 20 := by have := HN.out; omega
        by_cases hkl : k < PL.length
        · have r2 : (k : Int) < (PL.length : Int) := by omega
          have r20 : 0 ≤ (k : Int) := by omega
          have r10 : 0 ≤ (i : Int) := by omega
          have HKL := Lib.hid hkl
          obtain ⟨hil, hix⟩ := List.getElem?_eq_some_iff.1 HPI.out
          obtain ⟨bV, oV, hAV, y0, y1⟩ := rp2 (HV1.out.ext hxq) hil
          replace y0 : wq.cell? ⟨bV, oV + i * 2, none⟩ = some (.int .i64 x.1) := by rw [← hix]; exact y0
          replace y1 : wq.cell? ⟨bV, oV + i * 2 + 1, none⟩ = some (.int .i64 x.2) := by rw [← hix]; exact y1
          obtain ⟨bV', oV', hAV', z0, z1⟩ := rp2 (HV1.out.ext hxq) hkl
          rw [hAV] at hAV'
          injection hAV' with hAV'
          injection hAV' with hb hoff _
          subst hb hoff hAV
          obtain ⟨y, hy⟩ : ∃ y, y = PL[k] := ⟨_, rfl⟩
          have HTK := Lib.hid (show (PL.take (k + 1)).filterMap (A1 x) = (PL.take k).filterMap (A1 x) ++ (A1 x y).toList from by rw [hy]; exact Pl.fmk (A1 x) PL hkl)
          replace z0 : wq.cell? ⟨bV, oV + k * 2, none⟩ = some (.int .i64 y.1) := by rw [hy]; exact z0
          replace z1 : wq.cell? ⟨bV, oV + k * 2 + 1, none⟩ = some (.int .i64 y.2) := by rw [hy]; exact z1
          have HA1 := Lib.hid (HR1.out x y)
          have HCL := Lib.hid (fun W (hW : Ext wq W) => HAC.out x y W ((HX1.out.trans hxq).trans hW) HXM.out)
          generalize AF x y = fxy at *
          obtain ⟨FQ, hFQ⟩ : ∃ FQ, FQ = FK ++ (PL.take k).filterMap (A1 x) := ⟨_, rfl⟩
          have HFQ := Lib.hid hFQ
          have HFQL := Lib.hid (show FQ.length ≤ 800 from by
            rw [hFQ, List.length_append]
            have h1 := HFL.out
            have h2 := List.length_filterMap_le (A1 x) (PL.take k)
            rw [List.length_take] at h2
            omega)
          rw [← hFQ] at HOQ hvq
          clear hFQ
          obtain ⟨x1, x2⟩ := x
          obtain ⟨y1', y2'⟩ := y
          simp only at y0 y1 z0 z1
          subst hvq
          have g0 : wq.cell? ⟨p, 0, none⟩ = some (.slice A l.length c) := (HB1.out.ext hxq).cell 0
          have g1 : wq.cell? ⟨p, 1, none⟩ = some (.int .i64 out) := (HB1.out.ext hxq).cell 1
          have hA := World.block_lt_of_cell? wq _ g0
          have hP := World.block_lt_of_cell? wq _ y0
          simp only at hA hP
          have hA1 : ¬ p = wq.heap.size := by omega
          have hP1 : ¬ bV = wq.heap.size := by omega
          obtain ⟨s1, s2, hss⟩ : ∃ s1 s2, fxy.getD (false, 0) = (s1, s2) := ⟨_, _, rfl⟩
          rw [hss] at HCL
          obtain ⟨iso, hiso⟩ : ∃ b, fxy.isSome = b := ⟨_, rfl⟩
          rw [hiso] at HCL
          have HSS := Lib.hid hss
          have HIS := Lib.hid hiso
          clear hxq hkl hk hy hix hil hss hiso HAC HRR HRL HR1
          go_upto_region 9 with fail
          go_cut [7, 8] (fun s7 s8 wx => ∃ n7, s7 = .pointer (some ⟨n7, 0, none⟩) ∧ s8 = .bool iso ∧ Blk wx n7 37 #[.bool s1, .int .i64 s2] ∧ Ext wq wx)
          case first =>
            go_region_with (go_at_call 40; refine (HCL.out _ (by repeat (first | exact Ext.refl _ | refine Ext.drew ?_ | refine Ext.alloc ?_ _))).mono ?_; rintro e w5 ⟨rfl, he5⟩; try (have HBN := Lib.hid (((Blk.new wq 37 #[.bool false, .int .i64 0]).ext (Ext.refl _).drew).ext he5); have b0 := HBN.out.cell 0; have b1 := HBN.out.cell 1; have f0 := HBN.out.frozen 0; have f1 := HBN.out.frozen 1; have t0 := fun u => (HBN.out.set_ 0 u).frozen 1; have t1 := fun u => (HBN.out.set_ 0 u).cell 1))
            all_goals go_wp2
            all_goals go_meet
            all_goals first
              | exact ⟨_, rfl, rfl, Blk.fill2 HBN.out (.bool s1) (.int .i64 s2), (res2 HBN.out (((Ext.refl wq).alloc _).drew.trans he5) (Nat.le_refl _) (.bool s1) (.int .i64 s2)).2.2⟩
              | exact ⟨_, rfl, rfl, Blk.new w5 37 #[.bool s1, .int .i64 s2], ((Ext.refl wq).drew.trans he5).alloc _⟩
          case rest =>
          obtain ⟨n7, rfl, rfl, hb7, hx7⟩ := hcut
          rename World => w7
          have HB7 := Lib.hid hb7
          have HX7 := Lib.hid hx7
          have d0 : w7.cell? ⟨n7, 0, none⟩ = some (.bool s1) := hb7.cell 0
          have d1 : w7.cell? ⟨n7, 1, none⟩ = some (.int .i64 s2) := hb7.cell 1
          have y0 := hx7.cell y0
          have y1 := hx7.cell y1
          have z0 := hx7.cell z0
          have z1 := hx7.cell z1
          have HO7 := Lib.hid (HOQ.out.ext hx7)
          have HX17 := Lib.hid (HXQ.out.trans hx7)
          clear hb7 hx7 g0 g1 hA hP hA1 hP1 HCL HOQ
          cases iso with
          | false =>
            have HNN := Lib.hid (show FK ++ (PL.take (k + 1)).filterMap (A1 (x1, x2)) = FQ from by
              have h0 : fxy = none := by
                cases hf : fxy with
                | none => rfl
                | some z => have := HIS.out; rw [hf] at this; cases this
              rw [HTK.out, HA1.out, h0, HFQ.out]; simp)
            go_wp2
            exact ⟨⟨k + 1, HKL.out, by go_num, by rw [HNN.out]; exact HO7.out, HX17.out⟩, by have := HKL.out; simp [intOf]; omega⟩
          | true =>
            have HNN := Lib.hid (show FK ++ (PL.take (k + 1)).filterMap (A1 (x1, x2)) = FQ ++ [((((x1, x2), (y1', y2')), (s1, s2)) : Pl.Ar)] from by
              have h0 : fxy = some (s1, s2) := by
                cases hf : fxy with
                | none => have := HIS.out; rw [hf] at this; cases this
                | some z => have := HSS.out; rw [hf] at this; simpa using this
              rw [HTK.out, HA1.out, h0, HFQ.out]; simp)
            go_wp2
            refine wp_region_tailY 12 [] [] Ext Ext (fun _ => True) (by kernel_rfl) (by kernel_rfl) (by kernel_rfl) (by kernel_rfl) (by kernel_rfl) (by kernel_rfl) (by kernel_rfl) (by rfl) (by rfl) (by kernel_rfl) (by kernel_rfl) (by kernel_rfl) (fun _ _ _ x y => x.trans y) Ext.refl (fun _ _ x => x) (Ext.refl _).drew (fun _ _ x _ => x) trivial ?_
            repeat (first | (refine wpY_move0 rfl rfl (by first | exact runs0 | exact runs1 rfl) Ext.refl rfl rfl rfl ?_; apply Exists.intro; refine ⟨?_, ?_⟩; · (go_simp; rfl)) | (refine wpY_move rfl rfl (by first | exact runs0 | exact runs1 rfl) Ext.refl rfl rfl rfl (fun _ _ _ h _ => h) ?_) | (refine wpY_val rfl rfl (by first | exact runs0 | exact runs1 rfl) Ext.refl rfl ?_; apply Exists.intro; refine ⟨?_, ?_⟩; · (intro a w' hR; (try (intro h1; try have e1 : _ = _ := h1)); (try (intro h2; try have e2 : _ = _ := h2)); (try (intro h3; try have e3 : _ = _ := h3)); go_simp; rfl)) | (refine wpY_skip rfl rfl (by first | exact .inl rfl | exact .inr rfl) ?_))
            refine wpY_val rfl rfl (by first | exact runs0 | exact runs1 rfl) Ext.refl rfl ?_; apply Exists.intro; refine ⟨?_, ?_⟩
            · intro a w' hR h1
              have e1 : _ = _ := h1
              have hl0 := hR.cell y0
              have hl1 := hR.cell y1
              go_simp
              rfl
            repeat (first | (refine wpY_move0 rfl rfl (by first | exact runs0 | exact runs1 rfl) Ext.refl rfl rfl rfl ?_; apply Exists.intro; refine ⟨?_, ?_⟩; · (go_simp; rfl)) | (refine wpY_move rfl rfl (by first | exact runs0 | exact runs1 rfl) Ext.refl rfl rfl rfl (fun _ _ _ h _ => h) ?_) | (refine wpY_val rfl rfl (by first | exact runs0 | exact runs1 rfl) Ext.refl rfl ?_; apply Exists.intro; refine ⟨?_, ?_⟩; · (intro a w' hR; (try (intro h1; try have e1 : _ = _ := h1)); (try (intro h2; try have e2 : _ = _ := h2)); (try (intro h3; try have e3 : _ = _ := h3)); go_simp; rfl)) | (refine wpY_skip rfl rfl (by first | exact .inl rfl | exact .inr rfl) ?_))
            refine wpY_val rfl rfl (by first | exact runs0 | exact runs1 rfl) Ext.refl rfl ?_; apply Exists.intro; refine ⟨?_, ?_⟩
            · intro a w' hR h1
              have e1 : _ = _ := h1
              have hl0 := hR.cell z0
              have hl1 := hR.cell z1
              go_simp
              rfl
            refine wpY_val rfl rfl (by first | exact runs0 | exact runs1 rfl) Ext.refl rfl ?_; apply Exists.intro; refine ⟨?_, ?_⟩
            · intro a w' hR h1
              have e1 : _ = _ := h1
              have hl0 := hR.cell d0
              have hl1 := hR.cell d1
              go_simp
              rfl
            refine wpY_val rfl rfl (by first | exact runs0 | exact runs1 rfl) Ext.refl rfl ?_; apply Exists.intro; refine ⟨?_, ?_⟩
            · intro a w' hR h1 h2 h3
              have e1 : _ = _ := h1
              have e2 : _ = _ := h2
              have e3 : _ = _ := h3
              have q1 := e1; rw [Array.getD_eq_getD_getElem?] at q1
              have q2 := e2; rw [Array.getD_eq_getD_getElem?] at q2
              have q3 := e3; rw [Array.getD_eq_getD_getElem?] at q3
              go_simp
              rfl
            refine wpY_call (fun v w2 => RE w2 v [((((x1, x2), (y1', y2')), (s1, s2)) : Pl.Ar)]) rfl rfl (by first | exact runs0 | exact runs1 rfl) rfl (by first | exact mono_eq | exact (fun _ _ _ h k => Rd.ext h k) | exact (fun _ _ _ h k => RB.ext h k) | exact (fun _ _ _ h k => OB.ext h k) | exact (fun _ _ _ h k => RB.extS h k) | exact (fun _ _ _ h k => Rd.ext h (GrownW.ext k)) | exact (fun _ _ _ h k => RP.ext h k) | exact (fun _ _ _ h k => OP.ext h k) | exact (fun _ _ _ h k => Rd.extV h k) | exact (fun _ _ _ h k => RB.extV h k) | exact (fun _ _ _ h k => E0.ext h k) | exact (fun _ _ _ h k => O0.ext h k) | exact (fun _ _ _ h k => RE.ext h k) | exact (fun _ _ _ h k => RE.extD h k) | exact (fun _ _ _ h _ => h) | exact (fun _ _ _ ⟨n, h1, h2⟩ k => ⟨n, h1, k.st _ _ h2⟩) | exact (fun _ _ _ h k => OE.ext h k)) ?_ ?_
            · intro a w' hR h1 K hK
              have e1 : _ = _ := h1
              have q1 : a.tmps[47]?.getD undef = .agg #[.int .i64 x1, .int .i64 x2, .int .i64 y1', .int .i64 y2', .bool s1, .int .i64 s2] := by simpa using e1
              go_simp
              exact hK _ _ ((Ext.refl _).alloc _) (RE.lit _ #[.int .i64 x1, .int .i64 x2, .int .i64 y1', .int .i64 y2', .bool s1, .int .i64 s2] 39 1 [((((x1, x2), (y1', y2')), (s1, s2)) : Pl.Ar)] rfl (by omega) rfl)
            refine wpY_done ?_
            intro w5 hx5 hS
            iterate 11 (rintro _ rfl)
            rintro v48 h48
            dsimp only [FinV]
            go_simp
            have hx5 : Ext w7 w5 := hx5
            have HO5 := Lib.hid (HO7.out.ext hx5)
            have HX5 := Lib.hid (HX17.out.trans hx5)
            have HLIT := Lib.hid (show RE w5 v48 [((((x1, x2), (y1', y2')), (s1, s2)) : Pl.Ar)] from h48)
            clear hx5 hS h48
            simp only [thenTail, List.drop_succ_cons, List.drop_zero]
            go_wp2_with (refine wpList_appE rfl elemA w5 (.tmp 37) (.tmp 48) rfl w1.heap.size _ _ FQ [((((x1, x2), (y1', y2')), (s1, s2)) : Pl.Ar)] rfl HO5.out rfl HLIT.out (by have := HFQL.out; simp; omega) (by have := HFQL.out; unfold maxLen; simp; omega) HX5.out.size ?_; intro v8 w8 ho8 hg8 hat8)
            exact ⟨⟨k + 1, HKL.out, by go_num, by rw [HNN.out]; exact ho8, HX5.out.grown hat8 fun g hg => (HO5.out.own.lt g hg).1⟩, by have := HKL.out; simp [intOf]; omega⟩
        · obtain rfl : k = PL.length := by omega
          have r2 : ¬ (PL.length : Int) < (PL.length : Int) := by omega
          have HNN := Lib.hid (show (PL.take (i + 1)).flatMap AR = FK ++ (PL.take PL.length).filterMap (A1 x) from by rw [HFK1.out, HARX.out, List.take_length])
          clear hkl hk hxq
          go_wp2
          exact ⟨⟨i + 1, HLT.out, by go_num, by rw [HNN.out]; exact HOQ.out, HXQ.out⟩, by have := HLT.out; simp [intOf]; omega⟩
    · obtain rfl : i = PL.length := by omega
      have r1 : ¬ (PL.length : Int) < (PL.length : Int) := by omega
      rw [List.take_length, ← HAL.out] at HO hvo
      subst hvo
      have HR := Lib.hid HO.out.re
      have HG := Lib.hid (HX1.out.trans HX.out)
      clear hi hlt HO
      go_wp2
      go_ret
      exact ⟨_, rfl, HR.out, HG.out⟩
end Go.Proofs.Ytcacicgkebcdkaa
namespace Go.Ox.Pl
open Go.Ox.Gr Go.Proofs.Ytcacicgkebcdkaa Go.Proofs.Ytcacicgkebcdkaa.Mo
def cl (n : Int) (p : P2) : Nat := if 0 ≤ p.2 then 1 else if p.1 < n then 0 else 2
theorem cl_top {n k : Int} : cl n (k, -1) = if k < n then 0 else 2 := by
  unfold cl; rw [if_neg (by simp)]
theorem cl_in {n k : Int} (j : Nat) : cl n (k, (j : Int)) = 1 := by
  unfold cl; rw [if_pos (by simp)]
structure ArcC (n : Int) (a : Ar) : Prop where
  up : cl n a.1.1 ≤ cl n a.1.2
  st : a.2.1 = true → cl n a.1.1 < cl n a.1.2 ∧ a.2.2 = 0
  one : a.2.1 = false → (cl n a.1.1 = 1 ↔ cl n a.1.2 = 1)
  add : a.2.2 ≠ 0 → a.2.2 = 1 ∧ a.2.1 = false ∧ cl n a.1.1 = 1 ∧ cl n a.1.2 = 1
  top : cl n a.1.1 = cl n a.1.2 → cl n a.1.1 ≠ 1 → a.1.1.1 < a.1.2.1
  fwd : cl n a.1.1 = 1 → cl n a.1.2 = 1 → a.2.2 = 0 → a.1.1.2 < a.1.2.2
theorem arcC {g : G} {a : Ar} (h : a ∈ arcsL g) : ArcC (loopAt g.1) a := by
  obtain ⟨l, out⟩ := g
  cases hok : gOk (l, out) with
  | false =>
    have h1 : gPl (l, out) = [] := by unfold gPl; rw [if_neg (by rw [hok]; simp)]
    have := (mem_arcsL.1 h).1
    rw [h1] at this; simp at this
  | true =>
    have hpl : gPl (l, out) = plFrom l 0 := by unfold gPl; rw [if_pos hok]; rfl
    rw [← mem_arcs0] at h
    unfold Arcs0 at h
    rw [List.mem_append, hpl, List.mem_flatMap] at h
    show ArcC (loopAt l) a
    rcases h with ⟨p, hp, hx⟩ | hx
    · unfold arcsP at hx
      obtain ⟨u, hu, he⟩ := List.mem_map.1 hx
      obtain ⟨h1, h2, h3⟩ := us_arc hok hp hu
      rw [h2] at he
      subst he
      rcases users_cls hok hp hu with ⟨k, m, hm, rfl, e, hkm, hin⟩ | ⟨k, n, m, hn, hm, rfl, hl, e, hkn, h11⟩ | ⟨k, j, m, hk, hm, rfl, e, hjm, hin⟩
      · rw [e]
        constructor
        · simp only [cl_top]; split <;> split <;> omega
        · simp
        · simp only [cl_top]; intro _; split <;> split <;> simp
        · simp
        · simp only [cl_top]; intro _ _; omega
        · simp only [cl_top]; intro h; split at h <;> omega
      · rw [e, hl]
        constructor
        · simp only [cl_top, cl_in]; split <;> omega
        · simp only [cl_top, cl_in]; intro _; rw [if_pos (by omega)]; simp
        · simp
        · simp
        · simp only [cl_top, cl_in]; intro h; split at h <;> omega
        · simp only [cl_top, cl_in]; intro h; split at h <;> omega
      · rw [e]
        constructor
        · simp only [cl_in]; omega
        · simp
          omega
        · simp only [cl_in]; simp
        · simp
        · simp only [cl_in]; simp
        · simp only [cl_in]; intro _ _ _; omega
    · unfold rndL at hx
      by_cases hB : loopB (l, out) = true
      · rw [if_pos hB] at hx
        obtain ⟨n, hn, i0, -, hln, hN, h9, hb1, hb2, hi, hin, hhd, hla, hi0, hin2⟩ := lp_of hB
        rw [hN] at hhd
        rw [hN, hhd, hln] at hx
        have hlast : (l[n].body.length : Int) - 1 = ((l[n].body.length - 1 : Nat) : Int) := by omega
        rw [mem_roundL, hlast] at hx
        rw [hln]
        have D : ∀ m : Nat, ArcC (n : Int) ((((n : Int), ((l[n].body.length - 1 : Nat) : Int)), ((n : Int), (m : Int))), (false, 1)) := by
          intro m
          constructor
          · simp only [cl_in]; omega
          · simp
          · simp only [cl_in]; simp
          · simp only [cl_in]; simp
          · simp only [cl_in]; simp
          · simp
        rcases hx with hx | ⟨v, hv, hx | hx⟩ | ⟨v, hv, hx⟩
        · subst hx
          constructor
          · simp only [cl_in, cl_top]; rw [if_neg (by omega)]; omega
          · simp only [cl_in, cl_top]; intro _; rw [if_neg (by omega)]; simp
          · simp
          · simp
          · simp only [cl_in, cl_top]; intro h; split at h <;> omega
          · simp only [cl_in, cl_top]; intro _ h; split at h <;> omega
        · obtain ⟨m, hm, e, h10⟩ := bgF_mem.1 hv
          rw [Nat.zero_add] at e
          subst e
          subst hx
          constructor
          · simp only [cl_in, cl_top]; split <;> omega
          · simp only [cl_in, cl_top]; intro _; rw [if_pos (by omega)]; simp
          · simp
          · simp
          · simp only [cl_in, cl_top]; intro h; split at h <;> omega
          · simp only [cl_in, cl_top]; intro h; split at h <;> omega
        · obtain ⟨m, hm, e, h10⟩ := bgF_mem.1 hv
          rw [Nat.zero_add] at e
          subst e
          subst hx
          exact D m
        · obtain ⟨m, hm, e, h10⟩ := bgF_mem.1 hv
          rw [Nat.zero_add] at e
          subst e
          subst hx
          exact D m
      · rw [if_neg hB] at hx; simp at hx
def fW (w : Wy) (m : Int) : Int := if w.1 = true then w.2 else m + w.2
structure Ty (n : Int) (p v : P2) (w : Wy) : Prop where
  up : cl n p ≤ cl n v
  st : w.1 = true → cl n p < cl n v
  one : cl n v = 1 → w.1 = decide (cl n p ≠ 1)
  zer : cl n v ≠ 1 → w.2 = 0
  pos : 0 ≤ w.2
theorem Ty.step {n : Int} {p : P2} {x : Wy} {a : Ar} (h : Ty n p a.1.1 x) (c : ArcC n a) : Ty n p a.1.2 (thn x a.2) := by
  obtain ⟨⟨u, v⟩, ⟨s, b⟩⟩ := a
  obtain ⟨h1, h2, h3, h4, h5⟩ := h
  obtain ⟨c1, c2, c3, c4, c5, c6⟩ := c
  simp only at *
  cases s with
  | true =>
    have c2 := c2 rfl
    obtain ⟨c2, c2'⟩ := c2
    subst c2'
    refine ⟨by omega, fun _ => by omega, ?_, ?_, ?_⟩
    · intro hv
      show true = _
      have : cl n p ≠ 1 := by omega
      simp [this]
    · intro _; rfl
    · exact Int.le_refl _
  | false =>
    have c3 := c3 rfl
    refine ⟨by omega, ?_, ?_, ?_, ?_⟩
    · intro e
      have := h2 e
      omega
    · intro hv
      show x.1 = _
      exact h3 (c3.2 hv)
    · intro hv
      have hu : cl n u ≠ 1 := fun e => hv (c3.1 e)
      have hb : b = 0 := by
        by_cases q : b = 0
        · exact q
        · exact absurd (c4 q).2.2.2 hv
      show x.2 + b = 0
      rw [h4 hu, hb]; rfl
    · show 0 ≤ x.2 + b
      have : 0 ≤ b := by
        by_cases q : b = 0
        · omega
        · have := (c4 q).1; omega
      omega
theorem Ty.walk {g : G} {p0 p : P2} : ∀ {ws : List Ar} {u v : P2} {x : Wy}, Ty (loopAt g.1) p u x → Wk (arcsL g) p0 u ws v → Ty (loopAt g.1) p v (val x ws)
  | [], u, v, x, h, hw => by
    have : u = v := hw
    subst this
    exact h
  | a :: r, u, v, x, h, hw => by
    obtain ⟨h1, h2, h3, h4⟩ := hw
    subst h2
    exact (h.step (arcC h1)).walk (ws := r) h4
theorem walkM_ok {w : Wy} {m : Mom.M} : (walkM w m).2 = 0 ↔ 0 ≤ w.2 ∧ w.2 < 65536 ∧ Mom.ok m = true ∧ Mom.ok (m.1, fW w m.2) = true := by
  have e : stepM w m = (m.1, fW w m.2) := by
    unfold stepM fW
    split <;> simp
  unfold walkM
  rw [e]
  constructor
  · intro h
    split at h
    · simp at h
    · split at h
      · simp at h
      · split at h
        · simp at h
        · rename_i h1 h2 h3
          unfold okW at h1
          simp at h1
          exact ⟨h1.1, h1.2, by simpa using h2, by simpa using h3⟩
  · rintro ⟨h1, h2, h3, h4⟩
    have : okW w = true := by unfold okW; simp [h1, h2]
    rw [if_neg (by rw [this]; simp), if_neg (by rw [h3]; simp), if_neg (by rw [h4]; simp)]
theorem walkM_val {w : Wy} {m : Mom.M} (h : (walkM w m).2 = 0) : (walkM w m).1 = (m.1, fW w m.2) := by
  have e : stepM w m = (m.1, fW w m.2) := by
    unfold stepM fW
    split <;> simp
  obtain ⟨h1, h2, h3, h4⟩ := walkM_ok.1 h
  unfold walkM
  rw [e]
  have : okW w = true := by unfold okW; simp [h1, h2]
  rw [if_neg (by rw [this]; simp), if_neg (by rw [h3]; simp), if_neg (by rw [h4]; simp)]
end Go.Ox.Pl
namespace Go.Ox.Pl
open Go.Ox.Gr Go.Proofs.Ytcacicgkebcdkaa
theorem posFrom_mem {p : P2} {l : List P2} (h : p ∈ l) : ∃ j, ∃ (hj : j < l.length), posFrom p l 0 = (j : Int) ∧ l[j] = p := by
  have key : ∀ (l : List P2) (i : Nat), p ∈ l → ∃ j, ∃ (hj : j < l.length), posFrom p l i = ((i + j : Nat) : Int) ∧ l[j] = p := by
    intro l
    induction l with
    | nil => intro i h; simp at h
    | cons x l ih =>
      intro i h
      by_cases q : x = p
      · exact ⟨0, by simp, by rw [posFrom_hit q]; rfl, q⟩
      · rcases List.mem_cons.1 h with e | e
        · exact absurd e.symm q
        · obtain ⟨j, hj, h1, h2⟩ := ih (i + 1) e
          exact ⟨j + 1, by simpa using hj, by rw [posFrom_miss q, h1]; congr 1; omega, by simpa using h2⟩
  obtain ⟨j, hj, h1, h2⟩ := key l 0 h
  exact ⟨j, hj, by rw [h1, Nat.zero_add], h2⟩
theorem gPl_nodup (g : G) : (gPl g).Nodup := (gPl_sorted g).imp fun {a b} h e => by subst e; unfold plt at h; omega
def bet (M : Mp) (p v : P2) (w : Wy) : Bool := decide (better M p v w)
end Go.Ox.Pl
namespace Go.Proofs.Ytcacicgkebcdkaa
open Go.RowKit Go.Ox Go.Ox.Gr Mo
theorem ndInj {l : List Pl.P2} (h : l.Nodup) {i j : Nat} {hi : i < l.length} {hj : j < l.length} (e : l[i] = l[j]) : i = j := by
  rcases Nat.lt_trichotomy i j with q | q | q
  · exact absurd e (List.pairwise_iff_getElem.1 h i j hi hj q)
  · exact q
  · exact absurd e.symm (List.pairwise_iff_getElem.1 h j i hj hi q)
theorem elemBo : Elem Try.prog 83 4 (.bool false) 1 1 := Elem.mk' Try.underlying83 (by kernel_rfl) rfl (by omega)
theorem elemWy : Elem Try.prog 84 37 (.agg #[.bool false, .int .i64 0]) 2 16 := Elem.mk' Try.underlying84 (by kernel_rfl) rfl (by omega)
theorem mk_blk {w : World} {b n k : Nat} {E : TypeId} {xs : List Value} (h : w.ownsRow b E k (.slice (some ⟨b, 0, none⟩) n n) n xs) : ∃ cur, Blk w b E cur ∧ cur.size = n * k ∧ cur.toList = xs := by
  obtain ⟨h1, h2⟩ := h
  rcases h2 with ⟨h2, _⟩ | ⟨b', cap, cur, he, hb, hh, hnc, hcm, hcs, hx⟩
  · cases h2
  · injection he with e1 e2 e3
    injection e1 with e1
    injection e1 with e1
    subst e1 e3
    refine ⟨cur, hh, hcs, ?_⟩
    rw [← hx, List.take_of_length_le]
    rw [Array.length_toList, hcs]
    exact Nat.le_refl _
structure WS2 (w : World) (bh bw : Nat) (PL : List Pl.P2) (M : Pl.Mp) : Prop where
  ha : ∃ cur, Blk w bh 4 cur ∧ cur.size = PL.length ∧ ∀ j (hj : j < PL.length), cur[j]? = some (.bool (M PL[j]).isSome)
  wa : ∃ cur, Blk w bw 37 cur ∧ cur.size = PL.length * 2 ∧ ∀ j (hj : j < PL.length), cur[j * 2]? = some (.bool ((M PL[j]).getD (false, 0)).1) ∧ cur[j * 2 + 1]? = some (.int .i64 ((M PL[j]).getD (false, 0)).2)
theorem WS2.ext {w w' : World} {bh bw : Nat} {PL : List Pl.P2} {M : Pl.Mp} (h : WS2 w bh bw PL M) (he : Ext w w') : WS2 w' bh bw PL M := by
  obtain ⟨⟨c1, h1, h2⟩, c2, h3, h4⟩ := h
  exact ⟨⟨c1, h1.ext he, h2⟩, c2, h3.ext he, h4⟩
theorem WS2.lt {w : World} {bh bw : Nat} {PL : List Pl.P2} {M : Pl.Mp} (h : WS2 w bh bw PL M) : bh < w.heap.size ∧ bw < w.heap.size := by
  obtain ⟨⟨c1, h1, h2⟩, c2, h3, h4⟩ := h
  exact ⟨h1.lt, h3.lt⟩
theorem WS2.get {w : World} {bh bw : Nat} {PL : List Pl.P2} {M : Pl.Mp} (h : WS2 w bh bw PL M) {j : Nat} (hj : j < PL.length) {x : Pl.P2} (hx : PL[j] = x) :
    w.cell? ⟨bh, j, none⟩ = some (.bool (M x).isSome) ∧ w.cell? ⟨bw, j * 2, none⟩ = some (.bool ((M x).getD (false, 0)).1) ∧ w.cell? ⟨bw, j * 2 + 1, none⟩ = some (.int .i64 ((M x).getD (false, 0)).2) ∧
    w.frozen? ⟨bh, j, none⟩ = false ∧ w.frozen? ⟨bw, j * 2, none⟩ = false ∧ w.frozen? ⟨bw, j * 2 + 1, none⟩ = false := by
  obtain ⟨⟨c1, h1, h2, h3⟩, c2, h4, h5, h6⟩ := h
  subst hx
  exact ⟨(h1.cell j).trans (h3 j hj), (h4.cell _).trans (h6 j hj).1, (h4.cell _).trans (h6 j hj).2, h1.frozen _, h4.frozen _, h4.frozen _⟩
theorem WS2.put {w : World} {bh bw : Nat} {PL : List Pl.P2} {M : Pl.Mp} (h : WS2 w bh bw PL M) (hne : bh ≠ bw) (hnd : PL.Nodup) {j : Nat} (hj : j < PL.length) {x : Pl.P2} (hx : PL[j] = x) (n : Pl.Wy) :
    WS2 (((w.setCell ⟨bh, j, none⟩ (.bool true)).setCell ⟨bw, j * 2, none⟩ (.bool n.1)).setCell ⟨bw, j * 2 + 1, none⟩ (.int .i64 n.2)) bh bw PL (Pl.upd M x n) ∧
    WS2 (((w.setCell ⟨bw, j * 2, none⟩ (.bool n.1)).setCell ⟨bw, j * 2 + 1, none⟩ (.int .i64 n.2)).setCell ⟨bh, j, none⟩ (.bool true)) bh bw PL (Pl.upd M x n) := by
  obtain ⟨⟨c1, h1, h2, h3⟩, c2, h4, h5, h6⟩ := h
  have hh : ∀ i (hi : i < PL.length), (c1.setIfInBounds j (.bool true))[i]? = some (.bool (Pl.upd M x n PL[i]).isSome) := by
    intro i hi
    rw [Array.getElem?_setIfInBounds]
    by_cases e : j = i
    · subst e
      rw [if_pos rfl, if_pos (by omega), hx, Pl.upd_at]; rfl
    · rw [if_neg e, h3 i hi]
      have hne : PL[i] ≠ x := fun q => e ((ndInj hnd) (hx.trans q.symm))
      rw [Pl.upd_ne M n hne]
  have hw : ∀ i (hi : i < PL.length), ((c2.setIfInBounds (j * 2) (.bool n.1)).setIfInBounds (j * 2 + 1) (.int .i64 n.2))[i * 2]? = some (.bool ((Pl.upd M x n PL[i]).getD (false, 0)).1) ∧ ((c2.setIfInBounds (j * 2) (.bool n.1)).setIfInBounds (j * 2 + 1) (.int .i64 n.2))[i * 2 + 1]? = some (.int .i64 ((Pl.upd M x n PL[i]).getD (false, 0)).2) := by
    intro i hi
    rw [Array.getElem?_setIfInBounds, Array.getElem?_setIfInBounds, Array.getElem?_setIfInBounds, Array.getElem?_setIfInBounds]
    by_cases e : j = i
    · subst e
      rw [if_neg (by omega), if_pos rfl, if_pos (by omega), if_pos rfl, if_pos (by rw [Array.size_setIfInBounds]; omega), hx, Pl.upd_at]
      exact ⟨rfl, rfl⟩
    · have hne : PL[i] ≠ x := fun q => e ((ndInj hnd) (hx.trans q.symm))
      rw [if_neg (by omega), if_neg (by omega), if_neg (by omega), if_neg (by omega), Pl.upd_ne M n hne]
      exact h6 i hi
  refine ⟨⟨⟨_, ((h1.set_ j _).far (p := ⟨bw, j * 2, none⟩) hne _).far (p := ⟨bw, j * 2 + 1, none⟩) hne _, by rw [Array.size_setIfInBounds]; exact h2, hh⟩, _, ((h4.far (p := ⟨bh, j, none⟩) (Ne.symm hne) _).set_ (j * 2) _).set_ (j * 2 + 1) _, by rw [Array.size_setIfInBounds, Array.size_setIfInBounds]; exact h5, hw⟩,
    ⟨⟨_, ((h1.far (p := ⟨bw, j * 2, none⟩) hne _).far (p := ⟨bw, j * 2 + 1, none⟩) hne _).set_ j _, by rw [Array.size_setIfInBounds]; exact h2, hh⟩, _, ((h4.set_ (j * 2) _).set_ (j * 2 + 1) _).far (p := ⟨bh, j, none⟩) (Ne.symm hne) _, by rw [Array.size_setIfInBounds, Array.size_setIfInBounds]; exact h5, hw⟩⟩
theorem WS2.mark {w : World} {bh bw : Nat} {PL : List Pl.P2} {M M' : Pl.Mp} (h : WS2 w bh bw PL M) (hne : bh ≠ bw) (hnd : PL.Nodup) {j : Nat} (hj : j < PL.length) {x : Pl.P2} (hx : PL[j] = x) {b : Bool} (h1 : (M' x).isSome = b) (h2 : (M' x).getD (false, 0) = (M x).getD (false, 0)) (h3 : ∀ q, q ∈ PL → q ≠ x → M' q = M q) :
    WS2 (w.setCell ⟨bh, j, none⟩ (.bool b)) bh bw PL M' := by
  obtain ⟨⟨c1, g1, g2, g3⟩, c2, g4, g5, g6⟩ := h
  refine ⟨⟨_, g1.set_ j _, by rw [Array.size_setIfInBounds]; exact g2, fun i hi => ?_⟩, _, g4.far (p := ⟨bh, j, none⟩) (Ne.symm hne) _, g5, fun i hi => ?_⟩
  · rw [Array.getElem?_setIfInBounds]
    by_cases e : j = i
    · subst e
      rw [if_pos rfl, if_pos (by omega), hx, h1]
    · rw [if_neg e, g3 i hi, h3 _ (List.getElem_mem hi) (fun q => e ((ndInj hnd) (hx.trans q.symm)))]
  · by_cases e : j = i
    · subst e
      rw [hx, h2, ← hx]
      exact g6 j hi
    · rw [h3 _ (List.getElem_mem hi) (fun q => e ((ndInj hnd) (hx.trans q.symm)))]
      exact g6 i hi
theorem nePlD (a b c d : Int) (w : World) : (binOp .neq 26 (.agg #[.int .i64 a, .int .i64 b]) (.agg #[.int .i64 c, .int .i64 d])).run Try.prog w = .ok (.bool (!decide ((a, b) = (c, d)))) w := by
  rw [nePl]
  have h : pB a b c d = decide ((a, b) = (c, d)) := by
    unfold pB
    by_cases h1 : a = c <;> by_cases h2 : b = d <;> simp [h1, h2]
  rw [h]
theorem bet_eq (M : Pl.Mp) (p v : Pl.P2) (n : Pl.Wy) : Pl.bet M p v n = (!decide (v = p) && (!(M v).isSome || (decide (n.2 < ((M v).getD (false, 0)).2) || (decide (n.2 = ((M v).getD (false, 0)).2) && (n.1 && !((M v).getD (false, 0)).1))))) := by
  have e : Pl.bet M p v n = decide (v ≠ p ∧ ((M v).isNone = true ∨ Pl.less n ((M v).getD (false, 0)) = true)) := rfl
  rw [e]
  have e2 : Pl.less n ((M v).getD (false, 0)) = (decide (n.2 < ((M v).getD (false, 0)).2) || (decide (n.2 = ((M v).getD (false, 0)).2) && (n.1 && !((M v).getD (false, 0)).1))) := rfl
  rw [← e2]
  generalize (M v) = o
  generalize Pl.less n (o.getD (false, 0)) = b
  by_cases h1 : v = p <;> cases o <;> cases b <;> simp [h1]
theorem Ext.put {w0 w : World} (h : Ext w0 w) {b o : Nat} {s : Option Nat} (hb : w0.heap.size ≤ b) (u : Value) : Ext w0 (w.setCell ⟨b, o, s⟩ u) :=
  h.andQ ((ExtQ.refl (fun k => k = b) w).setCell (p := ⟨b, o, s⟩) rfl u) (fun k hk => by omega)
def mk0 (PL : List Pl.P2) (p : Pl.P2) (i : Nat) : Pl.Mp := fun q => if p ∈ PL.take i then Pl.M0 p q else none
theorem mk0_new {w : World} {bh bw : Nat} {PL : List Pl.P2} {p : Pl.P2} {c1 c2 : Array Value} (h1 : Blk w bh 4 c1) (s1 : c1.size = PL.length * 1) (e1 : c1.toList = (madeCells (Value.bool false).cells (PL.length * 1)).toList) (h2 : Blk w bw 37 c2) (s2 : c2.size = PL.length * 2) (e2 : c2.toList = (madeCells (Value.agg #[.bool false, .int .i64 0]).cells (PL.length * 2)).toList) :
    WS2 w bh bw PL (mk0 PL p 0) := by
  have e1 : c1 = madeCells (Value.bool false).cells (PL.length * 1) := by rw [← Array.toList_inj]; exact e1
  have e2 : c2 = madeCells (Value.agg #[.bool false, .int .i64 0]).cells (PL.length * 2) := by rw [← Array.toList_inj]; exact e2
  have m0 : ∀ q, mk0 PL p 0 q = none := fun q => by unfold mk0; rw [if_neg (by simp)]
  refine ⟨⟨c1, h1, by omega, fun j hj => ?_⟩, c2, h2, s2, fun j hj => ?_⟩
  · rw [m0, e1]
    unfold madeCells
    rw [Array.getElem?_map, Array.getElem?_range, if_pos (by omega)]
    simp [Value.cells, Nat.mod_one]
  · rw [m0, e2]
    have a1 : (j * 2 + 1) % 2 = 1 := by omega
    have a0 : (j * 2) % 2 = 0 := by omega
    unfold madeCells
    rw [Array.getElem?_map, Array.getElem?_map, Array.getElem?_range, Array.getElem?_range, if_pos (by omega), if_pos (by omega)]
    simp [Value.cells, a1, a0]
theorem mk0_s {PL : List Pl.P2} {p : Pl.P2} (hnd : PL.Nodup) {i : Nat} (hi : i < PL.length) {x : Pl.P2} (hx : PL[i] = x) :
    (mk0 PL p (i + 1) x).isSome = decide (x = p) ∧ (mk0 PL p (i + 1) x).getD (false, 0) = (mk0 PL p i x).getD (false, 0) ∧ ∀ q, q ∈ PL → q ≠ x → mk0 PL p (i + 1) q = mk0 PL p i q := by
  have hxt : x ∉ PL.take i := by
    intro hm
    obtain ⟨k, hk, e⟩ := List.getElem_of_mem hm
    rw [List.length_take] at hk
    rw [List.getElem_take] at e
    have := (ndInj hnd) (e.trans hx.symm)
    omega
  have ht : ∀ y, y ∈ PL.take (i + 1) ↔ y ∈ PL.take i ∨ y = x := fun y => by
    rw [List.take_succ_eq_append_getElem hi, List.mem_append, List.mem_singleton, hx]
  unfold mk0
  refine ⟨?_, ?_, fun q hq hne => ?_⟩
  · by_cases e : x = p
    · subst e
      rw [if_pos ((ht x).2 (.inr rfl))]; simp [Pl.M0]
    · rw [decide_eq_false e]
      split
      · unfold Pl.M0; rw [if_neg e]; rfl
      · rfl
  · by_cases e : x = p
    · subst e
      rw [if_pos ((ht x).2 (.inr rfl)), if_neg hxt]; simp [Pl.M0]
    · split <;> split <;> simp [Pl.M0, e]
  · by_cases e : p = x
    · subst e
      rw [if_pos ((ht p).2 (.inr rfl)), if_neg hxt]
      unfold Pl.M0; rw [if_neg hne]
    · by_cases k : p ∈ PL.take i
      · rw [if_pos ((ht p).2 (.inl k)), if_pos k]
      · rw [if_neg (fun h => by rcases (ht p).1 h with h | h; exact k h; exact e h), if_neg k]
theorem mk0_end {PL : List Pl.P2} {p : Pl.P2} (hp : p ∈ PL) : mk0 PL p PL.length = Pl.M0 p := by
  funext q
  unfold mk0
  rw [List.take_length, if_pos hp]
end Go.Proofs.Ytcacicgkebcdkaa
