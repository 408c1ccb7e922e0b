/-
  PlLawN, Fr3, GrFnR, GrRefI, GrRefA, packed: what the claim needs of them.
-/
import Derived.Test.YtdkejfjcchlnpaaGreatFt33
import Derived.Test.YtdkejfjcchlnpaaGreatFt42
set_option maxHeartbeats 40000000
open Go.Lib (hid)
set_option linter.unusedSimpArgs false
set_option linter.unusedVariables false
set_option maxRecDepth 100000
namespace Go.Ox.Pl
open Go.Ox.Gr Go.Proofs.YtdkejfjcchlnpaaGreat Go.Proofs.YtdkejfjcchlnpaaGreat.Mo
theorem pl_nd {g : G} {p : P2} (h : p ∈ gPl g) : (gNd g p).isSome = true := by
 unfold gPl at h
 split at h
 . rename_i hok
   exact (a4m hok).2 h
 simp at h
theorem b7o {g : G} {p q : P2} (hp : p ∈ gPl g) (hq : q ∈ gPl g) : a7m g p q = a9Z g p q := by
 unfold a7m; rw [if_pos ⟨pl_nd hp, pl_nd hq⟩]
end Go.Ox.Pl
namespace Go.Ox.Fr
open Go.Ox.Gr Go.Ox.Pl Go.Proofs.YtdkejfjcchlnpaaGreat Go.Proofs.YtdkejfjcchlnpaaGreat.Mo
def b1f (but : Bool) (q : P2) (m : Mom.M) : Cnt.S -> Bool := if but = true then own q m else no
theorem b7p (but : Bool) (q : P2) (m : Mom.M) (s : Cnt.S) : b1f but q m s = (but && (decide (s.1.1 = q) && decide (s.1.2 = m))) := by
 unfold b1f
 cases but <;> rfl
end Go.Ox.Fr
namespace Go.Proofs.YtdkejfjcchlnpaaGreat
open Go.RowKit Go.Ox Go.Ox.Gr Mo Ct
attribute [local irreducible] RE OE a00
theorem b1g (d : Nat) (v : Value) (g : G) (u : Value) (L : List Cnt.S) (q : Pl.P2) (but : Bool) (m : Mom.M) (w : World) (hv : a00 d w v g.1) (hok : gOk g = true) (hn : (gPl g).length <= 20) (hq : (gNd g q).isSome = true) (hu : RE w u L) (hl : L.length <= 1000000) :
 Calls Tryz.prog 24 #[gAg v g.2, u, plV q, .bool but, mV m] w fun e w' => ∃ u', e = .returned u' ∧ OE 29 w.heap.size w' u' (Fr.comes g L q (Fr.b1f but q m)) ∧ Ext w w' := by
 have HPC := hid (fun p W (h : Ext w W) => a4s d v g p W (hv.ext h) hok)
 have HWY := hid (fun p W (hp : (gNd g p).isSome = true) (h : Ext w W) => (show Calls Tryz.prog 55 #[gAg v g.2, plV p, plV q] W fun e w' => e = .returned (.tuple #[wV ((Pl.a7m g p q).getD (false, 0)), .bool (Pl.a7m g p q).isSome]) ∧ Ext W w' from by
  rw [Pl.b7o (Pl.b4N hp) (Pl.b4N hq)]
  exact a0U d v g p q W (hv.ext h) hok hn (Pl.b4N hp)))
 have HNW := hid (fun p (h : (gNd g p).isSome = false) => (show Pl.a7m g p q = none from by unfold Pl.a7m; rw [if_neg (by rw [h]; simp)]))
 have HCM := hid (show Fr.comes g L q (Fr.b1f but q m) = L.filterMap (Fr.cmB g q (Fr.b1f but q m)) from rfl);have HCB := hid (fun s => (show Fr.cmB g q (Fr.b1f but q m) s = if (but && (decide (s.1.1 = q) && decide (s.1.2 = m))) = true then none else (Pl.a7m g s.1.1 q).bind fun w => if (a1f w s.1.2).2 = 0 then some (a1f w s.1.2).1 else none from by rw [<- Fr.b7p]; rfl))
 have HLL := hid hl;obtain ⟨l, out⟩ := g;simp only at hv;generalize Fr.comes (l, out) L q (Fr.b1f but q m) = CL at *;generalize Fr.cmB (l, out) q (Fr.b1f but q m) = CB at *;obtain ⟨A, c, rfl⟩ := hv.form;obtain ⟨AS, cS, rfl⟩ := hu.form;obtain ⟨q1, q2⟩ := q;obtain ⟨m1, m2⟩ := m;have HX := hid (show Ext w (((w.alloc (.cells #[.slice A l.length c, .int .i64 out] 24)).alloc (.cells #[.int .i64 q1, .int .i64 q2] 27)).alloc (.cells #[.int .i64 m1, .int .i64 m2] 29)) from a0h [(#[.slice A l.length c, .int .i64 out], 24), (#[.int .i64 q1, .int .i64 q2], 27), (#[.int .i64 m1, .int .i64 m2], 29)] w);have HB0 := hid (show Blk (((w.alloc (.cells #[.slice A l.length c, .int .i64 out] 24)).alloc (.cells #[.int .i64 q1, .int .i64 q2] 27)).alloc (.cells #[.int .i64 m1, .int .i64 m2] 29)) (w.heap.size) 24 #[.slice A l.length c, .int .i64 out] from a08 [(#[.slice A l.length c, .int .i64 out], 24), (#[.int .i64 q1, .int .i64 q2], 27), (#[.int .i64 m1, .int .i64 m2], 29)] w 0 _ _ rfl);have HB1 := hid (show Blk (((w.alloc (.cells #[.slice A l.length c, .int .i64 out] 24)).alloc (.cells #[.int .i64 q1, .int .i64 q2] 27)).alloc (.cells #[.int .i64 m1, .int .i64 m2] 29)) (w.heap.size + 1) 27 #[.int .i64 q1, .int .i64 q2] from a08 [(#[.slice A l.length c, .int .i64 out], 24), (#[.int .i64 q1, .int .i64 q2], 27), (#[.int .i64 m1, .int .i64 m2], 29)] w 1 _ _ rfl);have HB2 := hid (show Blk (((w.alloc (.cells #[.slice A l.length c, .int .i64 out] 24)).alloc (.cells #[.int .i64 q1, .int .i64 q2] 27)).alloc (.cells #[.int .i64 m1, .int .i64 m2] 29)) (w.heap.size + 1 + 1) 29 #[.int .i64 m1, .int .i64 m2] from a08 [(#[.slice A l.length c, .int .i64 out], 24), (#[.int .i64 q1, .int .i64 q2], 27), (#[.int .i64 m1, .int .i64 m2], 29)] w 2 _ _ rfl);have HS := hid (hu.ext HX.o);clear hv hn hl hu hok hq
 go_enter Tryz.func24, Tryz.ntmps24
 go_upto_region 1 with fail
 generalize w.heap.size = bn at *;generalize ((w.alloc (.cells #[.slice A l.length c, .int .i64 out] 24)).alloc (.cells #[.int .i64 q1, .int .i64 q2] 27)).alloc (.cells #[.int .i64 m1, .int .i64 m2] 29) = w0 at *;have HWS := hid (show w.heap.size <= w0.heap.size from HX.o.size)
 go_wp2
 go_loopw [11, 12] (fun ov kv wr => ∃ k : Nat, k <= L.length ∧ kv = .int .i64 (k : Int) ∧ OE 29 w0.heap.size wr ov ((L.take k).filterMap CB) ∧ Ext w0 wr) (fun _ kv _ => L.length - (intOf kv).toNat)
 case atStart => exact ⟨0, Nat.zero_le _, rfl, by simpa using OE.a2g _ _ _, Ext.refl _⟩
 case round =>
 obtain ⟨k, hk, rfl, ho, hx⟩ := hrel;rename World => wr
 have HO := hid ho;have HE := hid hx;obtain ⟨AO, cO, hvo⟩ := ho.re.form;clear ho;have hk9 : k <= 1000000 := by have := HLL.o; omega
 by_cases hlt : k < L.length
 . have r1 : (k : Int) < (L.length : Int) := by omega
   have r0 : 0 <= (k : Int) := by omega
   have HLT := hid hlt;obtain ⟨bS, oS, hAS, hcS⟩ := RE.at_ (HS.o.ext hx) hlt;obtain ⟨s, hs⟩ : ∃ s, L[k] = s := ⟨_, rfl⟩;have HTK := hid (show (L.take (k + 1)).filterMap CB = (L.take k).filterMap CB ++ (CB s).toList from by rw [<- hs]; exact Pl.fmk CB L hlt)
   have HFX := hid (HCB.o s);have HP9 := hid (fun W (h : Ext wr W) => HPC.o s.1.1 W ((HX.o.trans hx).trans h))
   have HW9 := hid (fun W hp (h : Ext wr W) => HWY.o s.1.1 W hp ((HX.o.trans hx).trans h))
   have HN9 := hid (HNW.o s.1.1);replace hcS : ∀ j u, (encS.enc s)[j]? = some u -> wr.cell? ⟨bS, oS + k * 5 + j, none⟩ = some u := by subst hs; exact hcS
   have hfl : ((L.take k).filterMap CB).length <= 1000000 := by have := List.length_filterMap_le CB (L.take k); rw [List.length_take] at this; omega
   generalize (L.take k).filterMap CB = FK at *;obtain ⟨⟨⟨s1, s2⟩, s3, s4⟩, s5⟩ := s;simp only at HFX HP9 HW9 HN9;generalize Pl.a7m (l, out) (s1, s2) (q1, q2) = O at *;generalize (gNd (l, out) (s1, s2)).isSome = sp at *;have e0 : wr.cell? ⟨bS, oS + k * 5, none⟩ = some (.int .i64 s1) := hcS 0 _ rfl;have e1' : wr.cell? ⟨bS, oS + k * 5 + 1, none⟩ = some (.int .i64 s2) := hcS 1 _ rfl;have e2' : wr.cell? ⟨bS, oS + k * 5 + 2, none⟩ = some (.int .i64 s3) := hcS 2 _ rfl;have e3' : wr.cell? ⟨bS, oS + k * 5 + 3, none⟩ = some (.int .i64 s4) := hcS 3 _ rfl;subst hAS;subst hvo;have c10 := (HB1.o.ext hx).c0;have c11 := (HB1.o.ext hx).c1;have c20 := (HB2.o.ext hx).c0;have c21 := (HB2.o.ext hx).c1;clear hcS hlt hk hs hx
   go_upto_region 5 with fail
   obtain ⟨bb, hbb⟩ : ∃ x, (but && (decide ((s1, s2) = (q1, q2)) && decide ((s3, s4) = (m1, m2)))) = x := ⟨_, rfl⟩;rw [hbb] at HFX
   go_cut [41] (fun s wx => s = .bool bb ∧ Ext wr wx)
   case first => as_aux_lemma =>
    clear HPC HWY HNW HCM HCB HLL HX HB0 HB1 HB2 HS HWS HO HE HLT HTK HFX HP9 HW9 HN9;have heq := a6Y s1 s2 q1 q2;have hem := Mo.eqM s3 s4 m1 m2
    cases but with
    | false =>
     have : bb = false := by rw [<- hbb]; rfl
     subst this;clear hbb heq hem
     (go_region; all_goals go_wp2; all_goals go_meet; all_goals exact ⟨rfl, by first | exact Ext.refl _ | exact (Ext.refl _).drew⟩)
    | true =>
    by_cases h1 : (s1, s2) = (q1, q2)
    . rw [decide_eq_true h1] at heq hbb
      by_cases h2 : (s3, s4) = (m1, m2)
      . rw [decide_eq_true h2] at hbb
        have : bb = true := by rw [<- hbb]; rfl
        subst this;rw [a2b h2] at hem;obtain ⟨rfl, rfl⟩ := Prod.mk.inj h1;obtain ⟨rfl, rfl⟩ := Prod.mk.inj h2;clear hbb h1 h2
        (go_region; all_goals go_wp2; all_goals go_meet; all_goals exact ⟨rfl, by first | exact Ext.refl _ | exact (Ext.refl _).drew⟩)
      rw [decide_eq_false h2] at hbb;have : bb = false := by rw [<- hbb]; rfl
      subst this;rw [a2D h2] at hem;obtain ⟨rfl, rfl⟩ := Prod.mk.inj h1;clear hbb h1
      (go_region; all_goals go_wp2; all_goals go_meet; all_goals exact ⟨rfl, by first | exact Ext.refl _ | exact (Ext.refl _).drew⟩)
    rw [decide_eq_false h1] at heq hbb;have : bb = false := by rw [<- hbb]; rfl
    subst this;clear hbb hem
    (go_region; all_goals go_wp2; all_goals go_meet; all_goals exact ⟨rfl, by first | exact Ext.refl _ | exact (Ext.refl _).drew⟩)
   case rest =>
   obtain ⟨rfl, hx5⟩ := hcut;rename World => w5
   have HO := hid (HO.o.ext hx5);have HE := hid (HE.o.trans hx5);have e0 := hx5.cell e0;have e1' := hx5.cell e1';have e2' := hx5.cell e2';have e3' := hx5.cell e3';have HP9 := hid (fun W (h : Ext w5 W) => HP9.o W (hx5.trans h))
   have HW9 := hid (fun W hp (h : Ext w5 W) => HW9.o W hp (hx5.trans h))
   have c10 := hx5.cell c10;have c11 := hx5.cell c11;clear hx5 c20 c21 hbb
   cases bb with
   | true =>
    have HR := hid (show (L.take (k + 1)).filterMap CB = FK from by rw [HTK.o, HFX.o]; simp)
    go_wp2
    exact ⟨⟨k + 1, HLT.o, by go_num, by rw [HR.o]; exact HO.o, HE.o⟩, by have := HLT.o; simp [intOf]; omega⟩
   | false =>
   have c00 := (HB0.o.ext HE.o).c0;have c01 := (HB0.o.ext HE.o).c1
   go_upto_region 6 with fail
   refine yx ?_;refine yl2 c00 c01 ?_;refine ya ?_;refine a0j rfl rfl (a03 rfl) Ext.refl rfl ?_; apply Exists.intro; refine ⟨?_, ?_⟩
   . intro a w' hR h1
     have e1 : _ = _ := h1;have hl0 := hR.cell e0;have hl1 := hR.cell e1';go_simp;rfl
   refine yc2 (.bool sp) (fun w' hR => HP9.o w' hR) ?_
   refine yl0 ?_;refine a01 ?_;intro w6 hx6 hS
   iterate 8 (rintro _ rfl)
   dsimp only [a0y];go_simp;have hx6 : Ext w5 w6 := hx6;have HO := hid (HO.o.ext hx6);have HE := hid (HE.o.trans hx6);have e0 := hx6.cell e0;have e1' := hx6.cell e1';have e2' := hx6.cell e2';have e3' := hx6.cell e3';have HW9 := hid (fun W hp (h : Ext w6 W) => HW9.o W hp (hx6.trans h))
   have c10 := hx6.cell c10;have c11 := hx6.cell c11;have c00 := hx6.cell c00;have c01 := hx6.cell c01;clear hx6 hS HP9
   cases sp with
   | false =>
    have HR := hid (show (L.take (k + 1)).filterMap CB = FK from by rw [HTK.o, HFX.o, HN9.o rfl]; simp)
    clear HN9
    go_wp2
    exact ⟨⟨k + 1, HLT.o, by go_num, by rw [HR.o]; exact HO.o, HE.o⟩, by have := HLT.o; simp [intOf]; omega⟩
   | true =>
   obtain ⟨y1, y2, hy⟩ : ∃ y1 y2, O.getD (false, 0) = (y1, y2) := ⟨_, _, rfl⟩;obtain ⟨iso, hiso⟩ : ∃ x, O.isSome = x := ⟨_, rfl⟩;have HC9 := hid (fun W (h : Ext w6 W) => HW9.o W rfl h)
   rw [hy, hiso] at HC9;have HYY := hid hy;have HIS := hid hiso;have hA := World.block_lt_of_cell? w6 _ c00;have hA2 := World.block_lt_of_cell? w6 _ c10;have hP := World.block_lt_of_cell? w6 _ e0;simp only at hA hA2 hP;have hA1 : ¬ bn = w6.heap.size := by omega
   have hA3 : ¬ bn + 1 = w6.heap.size := by omega
   have hP1 : ¬ bS = w6.heap.size := by omega
   clear hy hiso HW9 HN9
   go_upto_region 7 with fail
   go_cut [13, 14] (fun s7 s8 wx => ∃ n7, s7 = .pointer (some ⟨n7, 0, none⟩) ∧ s8 = .bool iso ∧ Blk wx n7 107 #[.bool y1, .int .i64 y2] ∧ Ext w6 wx)
   case first => as_aux_lemma =>
    clear HPC HWY HNW HCM HCB HLL HX HB0 HB1 HB2 HS HWS HO HE HLT HTK HFX HYY HIS
    go_region_with (go_at_call 55; refine (HC9.o _ (by repeat (first | exact Ext.refl _ | refine Ext.drew ?_ | refine Ext.alloc ?_ _))).mono ?_; rintro e w5 ⟨rfl, he5⟩; try (have HBN := hid (((Blk.new w6 107 #[.bool false, .int .i64 0]).ext (Ext.refl _).drew).ext he5); have b0 := HBN.o.cell 0; have b1 := HBN.o.cell 1; have f0 := HBN.o.frozen 0; have f1 := HBN.o.frozen 1; have t0 := fun u => (HBN.o.a0q 0 u).frozen 1; have t1 := fun u => (HBN.o.a0q 0 u).cell 1))
    all_goals go_wp2
    all_goals go_meet
    all_goals first
     | exact ⟨_, rfl, rfl, Blk.b5c HBN.o (.bool y1) (.int .i64 y2), (a5G HBN.o (((Ext.refl w6).alloc _).drew.trans he5) (Nat.le_refl _) (.bool y1) (.int .i64 y2)).2.2⟩
     | exact ⟨_, rfl, rfl, Blk.new w5 107 #[.bool y1, .int .i64 y2], ((Ext.refl w6).drew.trans he5).alloc _⟩
   case rest =>
   obtain ⟨n7, rfl, rfl, hbn7, hxn7⟩ := hcut;rename World => w7
   have HO := hid (HO.o.ext hxn7);have HE := hid (HE.o.trans hxn7);have e2' := hxn7.cell e2';have e3' := hxn7.cell e3';have y0 := hbn7.c0;have y1' : w7.cell? ⟨n7, 1, none⟩ = some (.int .i64 y2) := hbn7.cell 1;clear hxn7 hbn7 hA hA2 hP hA1 hA3 hP1 HC9 e0 e1' c00 c01 c10 c11
   cases iso with
   | false =>
    have h0 : O = none := by
     cases hO : O with
     | none => rfl
     | some x => have := HIS.o; rw [hO] at this; cases this
    have HR := hid (show (L.take (k + 1)).filterMap CB = FK from by rw [HTK.o, HFX.o, h0]; simp)
    clear h0
    go_wp2
    exact ⟨⟨k + 1, HLT.o, by go_num, by rw [HR.o]; exact HO.o, HE.o⟩, by have := HLT.o; simp [intOf]; omega⟩
   | true =>
   have h0 : O = some (y1, y2) := by
    cases hO : O with
    | none => have := HIS.o; rw [hO] at this; cases this
    | some x => have := HYY.o; rw [hO] at this; simp only [Option.getD_some] at this; rw [this]
   have HF2 := hid (show CB (((s1, s2), s3, s4), s5) = if (a1f (y1, y2) (s3, s4)).2 = 0 then some (a1f (y1, y2) (s3, s4)).1 else none from by rw [HFX.o, if_neg (by simp), h0]; rfl)
   have HWK := hid (fun W (h : Ext w7 W) => Mo.b2M (y1, y2) (s3, s4) W)
   obtain ⟨⟨m1', m2'⟩, me, hme⟩ : ∃ m e, a1f (y1, y2) (s3, s4) = (m, e) := ⟨_, _, rfl⟩;rw [hme] at HF2 HWK;clear hme h0;simp only at HF2;have hA := World.block_lt_of_cell? w7 _ e2';have hP := World.block_lt_of_cell? w7 _ y0;simp only at hA hP;have hA1 : ¬ bS = w7.heap.size := by omega
   have hP1 : ¬ n7 = w7.heap.size := by omega
   go_upto_region 9 with fail
   go_cut [15, 16] (fun s7 s8 wx => ∃ n7, s7 = .pointer (some ⟨n7, 0, none⟩) ∧ s8 = .int .i64 me ∧ Blk wx n7 29 #[.int .i64 m1', .int .i64 m2'] ∧ Ext w7 wx)
   case first => as_aux_lemma =>
    clear HPC HWY HNW HCM HCB HLL HX HB0 HB1 HB2 HS HWS HO HE HLT HTK HFX HYY HIS HF2
    go_region_with (go_at_call 56; refine (HWK.o _ (by repeat (first | exact Ext.refl _ | refine Ext.drew ?_ | refine Ext.alloc ?_ _))).mono ?_; rintro e w5 ⟨rfl, he5⟩; try (have HBN := hid (((Blk.new w7 29 #[.int .i64 0, .int .i64 0]).ext (Ext.refl _).drew).ext he5); have b0 := HBN.o.cell 0; have b1 := HBN.o.cell 1; have f0 := HBN.o.frozen 0; have f1 := HBN.o.frozen 1; have t0 := fun u => (HBN.o.a0q 0 u).frozen 1; have t1 := fun u => (HBN.o.a0q 0 u).cell 1))
    all_goals go_wp2
    all_goals go_meet
    all_goals first
     | exact ⟨_, rfl, rfl, Blk.b5c HBN.o (.int .i64 m1') (.int .i64 m2'), (a5G HBN.o (((Ext.refl w7).alloc _).drew.trans he5) (Nat.le_refl _) (.int .i64 m1') (.int .i64 m2')).2.2⟩
     | exact ⟨_, rfl, rfl, Blk.new w5 29 #[.int .i64 m1', .int .i64 m2'], ((Ext.refl w7).drew.trans he5).alloc _⟩
   case rest =>
   obtain ⟨n9, rfl, rfl, hbn9, hxn9⟩ := hcut;rename World => w8
   have HO := hid (HO.o.ext hxn9);have HE := hid (HE.o.trans hxn9);have u0 := hbn9.c0;have u1 := hbn9.c1;clear hxn9 hbn9 hA hP hA1 hP1 HWK e2' e3' y0 y1'
   by_cases hme : me = 0
   . have t1 : (me == 0) = true := by simpa using hme
     have HR := hid (show (L.take (k + 1)).filterMap CB = FK ++ [(m1', m2')] from by rw [HTK.o, HF2.o, if_pos hme]; rfl)
     have HL1 := hid (RE.lit w8 #[.int .i64 m1', .int .i64 m2'] 29 1 [((m1', m2') : Int × Int)] rfl (by omega) rfl)
     have HXA := hid ((Ext.refl w8).alloc (.cells #[.int .i64 m1', .int .i64 m2'] 29));have HOL := hid (HO.o.ext HXA.o);have HXB := hid (HE.o.trans HXA.o);clear hme
     go_wp2_with (at_builtin; refine a07 rfl Mo.b1z _ _ _ rfl w0.heap.size _ _ FK [((m1', m2') : Int × Int)] rfl HOL.o rfl HL1.o (by simp; omega) (by unfold maxLen; simp; omega) HXB.o.size ?_; intro v8 w9 ho8 hg8 hat8)
     have HX7 := HXB.o.grown hat8 fun g hg => (HOL.o.own.lt g hg).1
     exact ⟨⟨k + 1, HLT.o, by go_num, by rw [HR.o]; exact ho8, HX7⟩, by have := HLT.o; simp [intOf]; omega⟩
   have t1 : (me == 0) = false := by simpa using hme
   have HR := hid (show (L.take (k + 1)).filterMap CB = FK from by rw [HTK.o, HF2.o, if_neg hme]; simp)
   clear hme
   go_wp2
   exact ⟨⟨k + 1, HLT.o, by go_num, by rw [HR.o]; exact HO.o, HE.o⟩, by have := HLT.o; simp [intOf]; omega⟩
 obtain rfl : k = L.length := by omega
 have r1 : ¬ (L.length : Int) < (L.length : Int) := by omega
 rw [List.take_length, <- HCM.o] at HO hvo;subst hvo;have HR := hid (OE.low HO.o HWS.o);have HG := hid (HX.o.trans hx);clear hk hlt HO hx
 go_wp2
 go_ret
 exact ⟨_, rfl, HR.o, HG.o⟩
end Go.Proofs.YtdkejfjcchlnpaaGreat
namespace Go.Proofs.YtdkejfjcchlnpaaGreat
open Go.RowKit Go.Ox Go.Ox.Gr
theorem a5L (k a : Int) (w : World) : Calls Tryz.prog 84 #[fnV k a] w fun e w' => e = .returned (.int .i64 (fam k a)) ∧ Ext w w' := by
 have HX0 := hid ((Ext.refl w).alloc (.cells #[.int .i64 k, .int .i64 a] 99));have hb := Blk.new w 99 #[.int .i64 k, .int .i64 a];have c0 : (w.alloc (.cells #[.int .i64 k, .int .i64 a] 99)).cell? ⟨w.heap.size, 0, none⟩ = some (.int .i64 k) := hb.cell 0;have c1 : (w.alloc (.cells #[.int .i64 k, .int .i64 a] 99)).cell? ⟨w.heap.size, 1, none⟩ = some (.int .i64 a) := hb.cell 1;clear hb
 have hlo : 0 <= lst k ∧ mst k <= 1048575 := by
  unfold lst mst
  repeat' split
  all_goals omega
 by_cases h1 : a < 0
 . rw [show fam k a = 0 from if_pos (by omega)]
   clear hlo
   go_enter Tryz.func84, Tryz.ntmps84
   go_wp2
   go_ret
   exact ⟨rfl, HX0.o⟩
 by_cases h2 : 1048576 <= a
 . rw [show fam k a = 0 from if_pos (by omega)]
   clear hlo
   go_enter Tryz.func84, Tryz.ntmps84
   go_wp2
   go_ret
   exact ⟨rfl, HX0.o⟩
 clear hlo;have ha : (a = 0 ∧ ¬ 1 <= a ∧ a <= 8) ∨ (¬ a = 0 ∧ 1 <= a ∧ a <= 8) ∨ (¬ a = 0 ∧ 1 <= a ∧ ¬ a <= 8) := by omega
 rcases kinds k with rfl | rfl | rfl | rfl | rfl | rfl | rfl | rfl | rfl | rfl | rfl | rfl | rfl | rfl | rfl | rfl | rfl | rfl | rfl | rfl | rfl | rfl | rfl | hk
 case' inr.inr.inr.inr.inr.inr.inr.inr.inr.inr.inr.inr.inr.inr.inr.inr.inr.inr.inr.inr.inr.inr.inr =>
  have e1 : fam k a = 0 := by unfold fam fk; rcases hk with hk | hk; rw [if_pos hk]; simp; rw [if_neg (show ¬ k < 1 by omega), if_neg (show ¬ k <= 8 by omega), if_neg (show ¬ k <= 12 by omega), if_neg (show ¬ k <= 15 by omega), if_neg (show ¬ k <= 19 by omega), if_neg (show ¬ k <= 23 by omega)]; simp
  rw [e1];clear e1;have n1 : ¬ k = 1 := by omega
  have n2 : ¬ k = 2 := by omega
  have n3 : ¬ k = 3 := by omega
  have n4 : ¬ k = 4 := by omega
  have n5 : ¬ k = 5 := by omega
  have n6 : ¬ k = 6 := by omega
  have n7 : ¬ k = 7 := by omega
  have n8 : ¬ k = 8 := by omega
  have n9 : ¬ k = 9 := by omega
  have n10 : ¬ k = 10 := by omega
  have n11 : ¬ k = 11 := by omega
  have n12 : ¬ k = 12 := by omega
  have n13 : ¬ k = 13 := by omega
  have n14 : ¬ k = 14 := by omega
  have n15 : ¬ k = 15 := by omega
  have n16 : ¬ k = 16 := by omega
  have n17 : ¬ k = 17 := by omega
  have n18 : ¬ k = 18 := by omega
  have n19 : ¬ k = 19 := by omega
  have n20 : ¬ k = 20 := by omega
  have n21 : ¬ k = 21 := by omega
  have n22 : ¬ k = 22 := by omega
  have n23 : ¬ k = 23 := by omega
  clear hk
 all_goals
  rcases ha with ⟨rfl, g2, g3⟩ | ⟨g1, g2, g3⟩ | ⟨g1, g2, g3⟩
  all_goals
   go_enter Tryz.func84, Tryz.ntmps84
   go_wp2
   go_ret
   refine ⟨?_, HX0.o⟩
   first | rfl | (unfold fam lst mst fk; simp; omega)
theorem a3g (k : Int) (w : World) : Calls Tryz.prog 82 #[.int .i64 k] w fun e w' => e = .returned (.int .i64 (arity k)) ∧ w = w' := by
 rcases b5W k with rfl | rfl | rfl | rfl | rfl | rfl | rfl | rfl | rfl | rfl | rfl | hk
 case' inr.inr.inr.inr.inr.inr.inr.inr.inr.inr.inr =>
  have e1 : arity k = 0 := by unfold arity; repeat' rw [if_neg (by omega)]
  rw [e1];clear e1;have n1 : ¬ k = 1 := by omega
  have n2 : ¬ k = 2 := by omega
  have n3 : ¬ k = 3 := by omega
  have n4 : ¬ k = 4 := by omega
  have n5 : ¬ k = 5 := by omega
  have n6 : ¬ k = 6 := by omega
  have n7 : ¬ k = 7 := by omega
  have n8 : ¬ k = 8 := by omega
  have n9 : ¬ k = 9 := by omega
  have n10 : ¬ k = 10 := by omega
  have n11 : ¬ k = 11 := by omega
  clear hk
 all_goals
  go_enter Tryz.func82, Tryz.ntmps82
  go_wp2
  go_ret
  exact ⟨rfl, rfl⟩
theorem a3u (k : Int) (w : World) : Calls Tryz.prog 83 #[.int .i64 k] w fun e w' => e = .returned (.int .i64 (a2I k)) ∧ w = w' := by
 rcases b5W k with rfl | rfl | rfl | rfl | rfl | rfl | rfl | rfl | rfl | rfl | rfl | hk
 case' inr.inr.inr.inr.inr.inr.inr.inr.inr.inr.inr =>
  have e1 : a2I k = 0 := by unfold a2I; repeat' rw [if_neg (by omega)]
  rw [e1];clear e1;have n1 : ¬ k = 1 := by omega
  have n2 : ¬ k = 2 := by omega
  have n3 : ¬ k = 3 := by omega
  have n4 : ¬ k = 4 := by omega
  have n5 : ¬ k = 5 := by omega
  have n6 : ¬ k = 6 := by omega
  have n7 : ¬ k = 7 := by omega
  have n8 : ¬ k = 8 := by omega
  have n9 : ¬ k = 9 := by omega
  have n10 : ¬ k = 10 := by omega
  have n11 : ¬ k = 11 := by omega
  clear hk
 all_goals
  go_enter Tryz.func83, Tryz.ntmps83
  go_wp2
  go_ret
  exact ⟨rfl, rfl⟩
open Go.RowKit Go.Ox Go.Ox.Gr
theorem a9h (ins : List Int) (i : Nat) {k : Nat} (h : k < ins.length) : a2j (ins.take (k + 1)) i = (a2j (ins.take k) i && ahB ins[k] i) := by
 unfold a2j ahB;rw [List.take_succ_eq_append_getElem h, List.all_append];simp
theorem a7j (ins : List Int) (i : Nat) {k : Nat} (h : k < ins.length) (hx : ¬ (0 <= ins[k] ∧ ins[k] < (i : Int))) : a2j ins i = false := by
 cases hi : a2j ins i with
 | false => rfl
 | true =>
 unfold a2j at hi;have := List.all_eq_true.1 hi ins[k] (List.getElem_mem h);simp only [Bool.and_eq_true, decide_eq_true_eq] at this;exact absurd this hx
end Go.Proofs.YtdkejfjcchlnpaaGreat
namespace Go.Proofs.YtdkejfjcchlnpaaGreat
open Go.RowKit Go.Ox Go.Ox.Gr
attribute [local irreducible] RE a00
theorem b7q (op kind fa a loop : Int) (u b : Value) (ins : List Int) (body : List Nd) (d at_ : Nat) (lb : Bool) (w : World) (hl : loop = -1 ∨ 0 <= loop) (hu : RE w u ins) (hb : a00 d w b body)
 (hli : op = 9 -> a0K op a loop = true -> ∀ W, Ext w W -> Calls Tryz.prog 85 #[b, .int .i64 (at_ : Int)] W fun e W' => e = .returned (.bool lb) ∧ Ext W W')
 (hno : op < 1 ∨ (¬ op < 1 ∧ 11 < op) ∨ (¬ op < 1 ∧ ¬ 11 < op ∧ ¬ (ins.length : Int) = arity op)) :
 Calls Tryz.prog 51 #[a1e op kind fa a u b, .int .i64 (at_ : Int), .int .i64 loop] w fun e w' => e = .returned (.bool (a1D loop lb (.mk op ins kind fa a body) at_)) ∧ Ext w w' := by
 have HR := hid (show a1D loop lb (.mk op ins kind fa a body) at_ = ((a5N op && (decide ((ins.length : Int) = arity op) && a2j ins at_)) && (fnB (a2I op) kind fa && (a0K op a loop && (if op = 9 then lb else body.isEmpty)))) from by
  unfold a1D base
  rw [a7I, a5j]; rfl)
 generalize a1D loop lb (.mk op ins kind fa a body) at_ = res at *;have HAR := hid (fun w => a3g op w)
 have HX0 := hid ((Ext.refl w).alloc (a0m op kind fa a u b));have HB0 := hid (Bx6.new w 101 (.int .i64 op) u (.int .i64 kind) (.int .i64 fa) (.int .i64 a) b);have HU := hid (hu.ext HX0.o);obtain ⟨Au, cu, rfl⟩ := hu.form;obtain ⟨Ab, cb, rfl⟩ := hb.form
 have HRES := hid (show res = false from by
  rw [HR.o]
  rcases hno with h | ⟨_, h⟩ | ⟨_, _, h⟩
  . rw [show a5N op = false by unfold a5N; rw [decide_eq_false (by omega), Bool.false_and]]; simp
  . rw [show a5N op = false by unfold a5N; rw [decide_eq_false (p := op <= 11) (by omega), Bool.and_false]]; simp
  rw [decide_eq_false h]; simp)
 obtain rfl : res = false := HRES.o;clear hu hb hli HR HRES HU;generalize body.length = bl at *;generalize arity op = ar at *
 go_enter Tryz.func51, Tryz.ntmps51
 go_upto_region 1 with fail
 generalize w.heap.size = p at *;generalize w.alloc (a0m op kind fa a (.slice Au ins.length cu) (.slice Ab bl cb)) = w0 at *;obtain ⟨c0, c1, c2, c3, c4, c5⟩ := HB0.o.at_
 rcases hno with o1 | ⟨o1, o2⟩ | ⟨o1, o2, k3⟩
 . skip
   refine yx ?_;refine ya ?_;refine yl1 c0 ?_;refine ya ?_;refine a01 ?_;intro w1 hx1 hS1
   iterate 17 (rintro _ rfl)
   dsimp only [a0y];go_simp;have hx1 : Ext w0 w1 := hx1
   go_wp2
   go_ret
   exact ⟨rfl, HX0.o.trans hx1⟩
 . skip
   refine yx ?_;refine ya ?_;refine yl1 c0 ?_;refine ya ?_;refine yl1 c0 ?_;refine ya ?_;refine a01 ?_;intro w1 hx1 hS1
   iterate 17 (rintro _ rfl)
   dsimp only [a0y];go_simp;have hx1 : Ext w0 w1 := hx1
   go_wp2
   go_ret
   exact ⟨rfl, HX0.o.trans hx1⟩
 have hbn : ((ins.length : Int) != ar) = true := by simpa using k3
 clear k3;refine yx ?_;refine ya ?_;refine yl1 c0 ?_;refine ya ?_;refine yl1 c0 ?_;refine ya ?_;refine yl1 c1 ?_;refine ya ?_;refine yl1 c0 ?_;refine yd1 (.int .i64 ar) (fun w' _ => HAR.o w') ?_
 refine ya ?_;refine a01 ?_;intro w1 hx1 hS1
 iterate 17 (rintro _ rfl)
 dsimp only [a0y];go_simp;have hx1 : Ext w0 w1 := hx1
 go_wp2
 go_ret
 exact ⟨rfl, HX0.o.trans hx1⟩
theorem rn_a (op kind fa a loop : Int) (u b : Value) (ins : List Int) (body : List Nd) (d at_ : Nat) (lb : Bool) (w : World) (hl : loop = -1 ∨ 0 <= loop) (hu : RE w u ins) (hb : a00 d w b body)
 (hli : op = 9 -> a0K op a loop = true -> ∀ W, Ext w W -> Calls Tryz.prog 85 #[b, .int .i64 (at_ : Int)] W fun e W' => e = .returned (.bool lb) ∧ Ext W W')
 (k1 : 1 <= op) (k2 : op <= 11) (k3 : (ins.length : Int) = arity op) (kf : a2I op = 0) (ka : ¬ kind = 0 ∨ (kind = 0 ∧ ¬ fa = 0) ∨ (kind = 0 ∧ fa = 0 ∧ op = 9)) :
 Calls Tryz.prog 51 #[a1e op kind fa a u b, .int .i64 (at_ : Int), .int .i64 loop] w fun e w' => e = .returned (.bool (a1D loop lb (.mk op ins kind fa a body) at_)) ∧ Ext w w' := by
 have HR := hid (show a1D loop lb (.mk op ins kind fa a body) at_ = ((a5N op && (decide ((ins.length : Int) = arity op) && a2j ins at_)) && (fnB (a2I op) kind fa && (a0K op a loop && (if op = 9 then lb else body.isEmpty)))) from by
  unfold a1D base
  rw [a7I, a5j]; rfl)
 generalize a1D loop lb (.mk op ins kind fa a body) at_ = res at *;have HAR := hid (fun w => a3g op w)
 have HX0 := hid ((Ext.refl w).alloc (a0m op kind fa a u b));have HB0 := hid (Bx6.new w 101 (.int .i64 op) u (.int .i64 kind) (.int .i64 fa) (.int .i64 a) b);have HU := hid (hu.ext HX0.o);obtain ⟨Au, cu, rfl⟩ := hu.form;obtain ⟨Ab, cb, rfl⟩ := hb.form;have HFA := hid (fun w => a3u op w)
 have HFV := hid (fun w => a5L kind fa w)
 have HLI := hid hli;have HIL := hid (show ins.length <= 1000000 by have := a1P op; omega)
 have HBE := hid (show body.isEmpty = decide (body.length = 0) from by cases body <;> simp)
 replace HR := hid (show res = (a2j ins at_ && (fnB (a2I op) kind fa && (a0K op a loop && (if op = 9 then lb else body.isEmpty)))) from by
  rw [HR.o, decide_eq_true k3, show a5N op = true by unfold a5N; rw [decide_eq_true k1, decide_eq_true k2]; rfl, Bool.true_and, Bool.true_and])
 have o1 : ¬ op < 1 := by omega
 have o2 : ¬ 11 < op := by omega
 have hbn : ((ins.length : Int) != arity op) = false := by simpa using k3
 rw [kf] at HFA;have HFN := hid (show fnB (a2I op) kind fa = ((kind == 0) && (fa == 0)) from if_pos kf);clear kf;clear hu hb hli k1 k2 k3;generalize body.isEmpty = be at *;generalize body.length = bl at *;generalize arity op = ar at *;generalize fnB (a2I op) kind fa = fB at *
 go_enter Tryz.func51, Tryz.ntmps51
 go_upto_region 1 with fail
 generalize w.heap.size = p at *;generalize w.alloc (a0m op kind fa a (.slice Au ins.length cu) (.slice Ab bl cb)) = w0 at *;obtain ⟨c0, c1, c2, c3, c4, c5⟩ := HB0.o.at_;refine yx ?_;refine ya ?_;refine yl1 c0 ?_;refine ya ?_;refine yl1 c0 ?_;refine ya ?_;refine yl1 c1 ?_;refine ya ?_;refine yl1 c0 ?_;refine yd1 (.int .i64 ar) (fun w' _ => HAR.o w') ?_
 refine ya ?_;refine a01 ?_;intro w1 hx1 hS1
 iterate 17 (rintro _ rfl)
 dsimp only [a0y];go_simp;have hx1 : Ext w0 w1 := hx1;have HX1 := hid (HX0.o.trans hx1);have HB1 := hid (HB0.o.ext hx1);have HU1 := hid (HU.o.ext hx1);clear hx1 hS1 c0 c1 c2 c3 c4 c5 HU HB0 HAR hbn
 go_wp2
 go_loopw [7] (fun iv wr => ∃ k : Nat, k <= ins.length ∧ iv = .int .i64 (k : Int) ∧ a2j (ins.take k) at_ = true ∧ Ext w1 wr) (fun iv _ => ins.length - (intOf iv).toNat)
 case atStart => exact ⟨0, Nat.zero_le _, rfl, rfl, Ext.refl _⟩
 case round =>
 obtain ⟨k, hk, rfl, hp, hext⟩ := hrel;have HP := hid hp;have HE := hid (HX1.o.trans hext);have HEX := hid hext;have HBR := hid (HB1.o.ext hext);obtain ⟨c0, c1, c2, c3, c4, c5⟩ := HBR.o.at_;clear hp
 by_cases hlt : k < ins.length
 . have q1 : (k : Int) < (ins.length : Int) := by omega
   have q0 : 0 <= (k : Int) := by omega
   have q1n : k < ins.length := hlt;have HLT := hid hlt;have hkb : k <= 1000000 := by have := HIL.o; omega
   obtain ⟨bA, oA, rfl, y0⟩ := ri1 (HU1.o.ext hext) hlt;have HS := hid (a9h ins at_ hlt);rw [HP.o, Bool.true_and] at HS;have HBAD := hid (fun (hx : ¬ (0 <= ins[k] ∧ ins[k] < (at_ : Int))) => show res = false from by rw [HR.o, a7j ins at_ hlt hx, Bool.false_and])
   generalize ins[k] = x at *;clear hext hlt hk
   by_cases x0 : x < 0
   . obtain rfl : res = false := HBAD.o (by omega)
     go_wp2
     go_ret
     exact ⟨rfl, HE.o⟩
   by_cases x1 : (at_ : Int) <= x
   . obtain rfl : res = false := HBAD.o (by omega)
     go_wp2
     go_ret
     exact ⟨rfl, HE.o⟩
   have HA := hid (show ahB x at_ = true by unfold ahB; rw [decide_eq_true (show 0 <= x by omega), decide_eq_true (show x < (at_ : Int) by omega)]; rfl)
   go_wp2
   exact ⟨⟨k + 1, HLT.o, by go_num, by rw [HS.o, HA.o], HEX.o⟩, by have := HLT.o; simp [intOf]; omega⟩
 obtain rfl : k = ins.length := by omega
 have q1 : ¬ (ins.length : Int) < (ins.length : Int) := by omega
 rw [List.take_length] at HP;replace HR := hid (show res = (fB && (a0K op a loop && (if op = 9 then lb else be))) from by rw [HR.o, HP.o, Bool.true_and])
 clear hext hk hlt HP HEX HU1 HB1 HX1 HIL
 go_upto_region 8 with fail
 rcases ka with kk | ⟨rfl, kk⟩ | ⟨rfl, rfl, rfl⟩
 . have hkb0 : (kind == 0) = false := by simpa using kk
   have HV := hid (show res = false from by rw [HR.o, HFN.o, hkb0, Bool.false_and, Bool.false_and])
   clear kk;refine yx ?_;refine ya ?_;refine yl1 c0 ?_;refine yd1 (.int .i64 0) (fun w' _ => HFA.o w') ?_
   refine ya ?_;refine yl1 c0 ?_;refine yd1 (.int .i64 0) (fun w' _ => HFA.o w') ?_
   refine ya ?_;refine yl2 c2 c3 ?_;refine ya ?_;refine ya ?_;refine ya ?_;refine a01 ?_;intro w5 hx5 hS5
   iterate 36 (rintro _ rfl)
   dsimp only [a0y];go_simp;have hx5 : Ext wr w5 := hx5;have HX5 := hid (HE.o.trans hx5);have HB5 := hid (HBR.o.ext hx5);clear hx5 hS5 c0 c1 c2 c3 c4 c5;obtain rfl : res = false := HV.o
   go_wp2
   go_ret
   exact ⟨rfl, HX5.o⟩
 . have hkb0 : (fa == 0) = false := by simpa using kk
   have HV := hid (show res = false from by rw [HR.o, HFN.o, hkb0, Bool.and_false, Bool.false_and])
   clear kk;refine yx ?_;refine ya ?_;refine yl1 c0 ?_;refine yd1 (.int .i64 0) (fun w' _ => HFA.o w') ?_
   refine ya ?_;refine yl1 c0 ?_;refine yd1 (.int .i64 0) (fun w' _ => HFA.o w') ?_
   refine ya ?_;refine yl2 c2 c3 ?_;refine ya ?_;refine ya ?_;refine ya ?_;refine a01 ?_;intro w5 hx5 hS5
   iterate 36 (rintro _ rfl)
   dsimp only [a0y];go_simp;have hx5 : Ext wr w5 := hx5;have HX5 := hid (HE.o.trans hx5);have HB5 := hid (HBR.o.ext hx5);clear hx5 hS5 c0 c1 c2 c3 c4 c5;obtain rfl : res = false := HV.o
   go_wp2
   go_ret
   exact ⟨rfl, HX5.o⟩
 replace HR := hid (show res = (a0K 9 a loop && lb) from by rw [HR.o, HFN.o, if_pos rfl]; rfl)
 refine yx ?_;refine ya ?_;refine yl1 c0 ?_;refine yd1 (.int .i64 0) (fun w' _ => HFA.o w') ?_
 refine ya ?_;refine yl1 c0 ?_;refine yd1 (.int .i64 0) (fun w' _ => HFA.o w') ?_
 refine ya ?_;refine yl2 c2 c3 ?_;refine ya ?_;refine ya ?_;refine ya ?_;refine yl1 c0 ?_;refine ya ?_;refine a01 ?_;intro w5 hx5 hS5
 iterate 36 (rintro _ rfl)
 dsimp only [a0y];go_simp;have hx5 : Ext wr w5 := hx5;have HX5 := hid (HE.o.trans hx5);have HB5 := hid (HBR.o.ext hx5);clear hx5 hS5 c0 c1 c2 c3 c4 c5;obtain ⟨c0, c1, c2, c3, c4, c5⟩ := HB5.o.at_;clear HFA HFV HBR HE HFN HBE
 rcases hl with rfl | hl
 . by_cases h0 : 1 <= a
   . by_cases h1 : a <= 64
     . have hn : a0K 9 a (-1) = true := by unfold a0K; simp <;> omega
       rw [hn, Bool.true_and] at HR;have HC := hid (HLI.o rfl hn _ HX5.o);clear hn;obtain rfl := HR.o
       go_wp2_with fail
       refine HC.o.mono ?_;rintro e w6 ⟨rfl, he6⟩;have HX6 := hid (HX5.o.trans he6);clear he6
       go_wp2
       go_ret
       exact ⟨rfl, HX6.o⟩
     obtain rfl : res = false := by rw [HR.o, show a0K 9 a (-1) = false by unfold a0K; simp <;> omega, Bool.false_and]
     go_wp2_with fail
     go_ret
     exact ⟨rfl, HX5.o⟩
   obtain rfl : res = false := by rw [HR.o, show a0K 9 a (-1) = false by unfold a0K; simp <;> omega, Bool.false_and]
   go_wp2_with fail
   go_ret
   exact ⟨rfl, HX5.o⟩
 obtain rfl : res = false := by rw [HR.o, show a0K 9 a loop = false by unfold a0K; simp <;> omega, Bool.false_and]
 have hln : ¬ loop < 0 := by omega
 go_wp2_with fail
 go_ret
 exact ⟨rfl, HX5.o⟩
end Go.Proofs.YtdkejfjcchlnpaaGreat
