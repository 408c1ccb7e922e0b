/-
  Fr13, FrArgs, GrReach, CntR, CntR2, packed: what the claim needs of them.
-/
import Derived.Test.YtdkejfjcchlnpaaGreatFt36
set_option maxHeartbeats 40000000
open Go.Lib (hid)
set_option linter.unusedSimpArgs false
set_option linter.unusedVariables false
set_option maxRecDepth 100000
namespace Go.Proofs.YtdkejfjcchlnpaaGreat
open Go.RowKit Go.Ox Go.Ox.Gr Go.Shelf Mo Ct
attribute [local irreducible] RE OE a00
theorem a8m (v : Value) (L : List Cnt.K) (k : Cnt.K) (w : World) (hv : RE w v L) (hasc : L.Pairwise Cnt.klt) (hl : L.length <= 1000) :
 Calls Tryz.prog 29 #[v, kV k] w fun e w' => ∃ u, e = .returned (.tuple #[u, .bool (!decide (k ∈ L))]) ∧ RE w' u (if k ∈ L then L else Fr.a6z L k) ∧ Ext w w' := by
 obtain ⟨bm, hbm⟩ : ∃ bm, bm = decide (k ∈ L) := ⟨_, rfl⟩;rw [<- hbm];obtain ⟨RL, hRL⟩ : ∃ RL, RL = (if k ∈ L then L else Fr.a6z L k) := ⟨_, rfl⟩
 rw [<- hRL];obtain ⟨A, c, rfl⟩ := hv.form;have HV := hid hv;have HBE := hid (fun x W => b1b x k W)
 have HME := hid (fun j hj h hn => Fr.mem_at (k := k) (j := j) hasc hj h hn)
 have HPA := hid (fun j hj h hn => Fr.b71 (L := L) (k := k) (j := j) hj h hn)
 obtain ⟨⟨k1, k2⟩, k3, k4⟩ := k;have HX := hid ((Ext.refl w).alloc (.cells #[.int .i64 k1, .int .i64 k2, .int .i64 k3, .int .i64 k4] 66));have HB := hid (Blk.new w 66 #[.int .i64 k1, .int .i64 k2, .int .i64 k3, .int .i64 k4]);have HG9 := hid b3k;have HBM := hid hbm;have HRL := hid hRL;clear hv hasc hbm hRL
 go_enter Tryz.func29, Tryz.ntmps29
 go_upto_region 1 with fail
 generalize w.heap.size = bn at *;generalize w.alloc (.cells #[.int .i64 k1, .int .i64 k2, .int .i64 k3, .int .i64 k4] 66) = w0 at *
 go_wp2
 go_loopw [6] (fun iv wr => ∃ j : Nat, j <= L.length ∧ iv = .int .i64 (j : Int) ∧ (∀ x ∈ L.take j, Fr.bfK ((k1, k2), k3, k4) x = true) ∧ Ext w0 wr) (fun iv _ => L.length - (intOf iv).toNat)
 case atStart => exact ⟨0, Nat.zero_le _, rfl, by simp, Ext.refl _⟩
 case round =>
 obtain ⟨j, hj, rfl, hbf, hext⟩ := hrel;rename World => w1
 have HF := hid hbf;have HE := hid hext;have hj9 : j <= 1000 := by omega
 have HJ := hid hj;have d0 := (HB.o.ext hext).c0;have d1 := (HB.o.ext hext).c1;have d2 := (HB.o.ext hext).c2;have d3 := (HB.o.ext hext).c3;clear hbf hj
 by_cases hlt : j < L.length
 . have r1 : (j : Int) < (L.length : Int) := by omega
   have r0 : 0 <= (j : Int) := by omega
   obtain ⟨bA, oA, rfl, y0, y1, y2, y3⟩ := reA4 ((HV.o.ext HX.o).ext hext) hlt;have HV1 := hid ((HV.o.ext HX.o).ext hext);have HLT := hid hlt;obtain ⟨x, hx⟩ : ∃ x, L[j] = x := ⟨_, rfl⟩;have HXJ := hid hx;replace y0 : w1.cell? ⟨bA, oA + j * 4, none⟩ = some (.int .i64 x.1.1) := by rw [<- hx]; exact y0
   replace y1 : w1.cell? ⟨bA, oA + j * 4 + 1, none⟩ = some (.int .i64 x.1.2) := by rw [<- hx]; exact y1
   replace y2 : w1.cell? ⟨bA, oA + j * 4 + 2, none⟩ = some (.int .i64 x.2.1) := by rw [<- hx]; exact y2
   replace y3 : w1.cell? ⟨bA, oA + j * 4 + 3, none⟩ = some (.int .i64 x.2.2) := by rw [<- hx]; exact y3
   have HC := hid (fun W => HBE.o x W)
   obtain ⟨⟨x1, x2⟩, x3, x4⟩ := x;dsimp only at y0 y1 y2 y3;obtain ⟨bf, hbf⟩ : ∃ bf, Fr.bfK ((k1, k2), k3, k4) ((x1, x2), x3, x4) = bf := ⟨_, rfl⟩;have HBF := hid hbf;rw [hbf] at HC;have r1n := hlt;clear hbf hx hlt hext
   cases bf with
   | true =>
    go_wp2
    refine yx ?_;refine ya ?_;refine yl4 y0 y1 y2 y3 ?_;refine yl4 d0 d1 d2 d3 ?_;refine yc2 (.bool true) (fun w' _ => HC.o w') ?_
    refine ya ?_;refine a01 ?_;intro w2 he2 hS2
    iterate 12 (rintro _ rfl)
    dsimp only [a0y];go_simp;have he2 : Ext w1 w2 := he2
    go_wp2
    exact ⟨⟨j + 1, HLT.o, by go_num, Fr.bf_s HLT.o HF.o ((congrArg (Fr.bfK ((k1, k2), k3, k4)) HXJ.o).trans HBF.o), HE.o.trans he2⟩, by have := HLT.o; simp [intOf]; omega⟩
   | false =>
   have HN := hid (show ∀ h : j < L.length, Fr.bfK ((k1, k2), k3, k4) L[j] = false from fun h => (congrArg (Fr.bfK ((k1, k2), k3, k4)) HXJ.o).trans HBF.o)
   have HIFF := hid (HME.o j HJ.o HF.o HN.o);have HPK := hid (HPA.o j HJ.o HF.o HN.o)
   go_wp2
   refine yx ?_;refine ya ?_;refine yl4 y0 y1 y2 y3 ?_;refine yl4 d0 d1 d2 d3 ?_;refine yc2 (.bool false) (fun w' _ => HC.o w') ?_
   refine ya ?_;refine a01 ?_;intro w2 he2 hS2
   iterate 12 (rintro _ rfl)
   dsimp only [a0y];go_simp;have he2 : Ext w1 w2 := he2;have HE := hid (HE.o.trans he2);have HV2 := hid (HV1.o.ext he2);have y0 := he2.cell y0;have y1 := he2.cell y1;have y2 := he2.cell y2;have y3 := he2.cell y3;have d0 := he2.cell d0;have d1 := he2.cell d1;have d2 := he2.cell d2;have d3 := he2.cell d3;have HW2 := hid he2;clear he2;have heq := eqAsk ((x1, x2), x3, x4) ((k1, k2), k3, k4);have hG := HG9.o;have PT := hid (show (((x1, x2), x3, x4) : Cnt.K) = ((k1, k2), k3, k4) -> ((k1, k2), k3, k4) ∈ L from fun e => HIFF.o.2 ⟨HLT.o, HXJ.o.trans e⟩)
   have PF := hid (show (((x1, x2), x3, x4) : Cnt.K) ≠ ((k1, k2), k3, k4) -> ((k1, k2), k3, k4) ∉ L from fun hne hm => by obtain ⟨_, e⟩ := HIFF.o.1 hm; exact hne (HXJ.o.symm.trans e))
   by_cases hxy : (((x1, x2), x3, x4) : Cnt.K) = ((k1, k2), k3, k4)
   . rw [decide_eq_true hxy] at heq
     have HM := hid (PT.o hxy);clear hxy;dsimp only [kV] at heq
     go_wp2
     refine yx ?_;refine ya ?_;refine yl4 y0 y1 y2 y3 ?_;refine yl4 d0 d1 d2 d3 ?_;refine ya ?_;refine a01 ?_;intro w3 he3 hS3
     iterate 12 (rintro _ rfl)
     dsimp only [a0y];go_simp;have he3 : Ext w2 w3 := he3
     go_wp2
     go_ret2
     refine ⟨_, by rw [HBM.o.trans (decide_eq_true HM.o)]; rfl, ?_, HX.o.trans (HE.o.trans he3)⟩
     rw [HRL.o.trans (if_pos HM.o)];exact HV2.o.ext he3
   rw [decide_eq_false hxy] at heq;have HM := hid (PF.o hxy);clear hxy;dsimp only [kV] at heq
   go_wp2
   refine yx ?_;refine ya ?_;refine yl4 y0 y1 y2 y3 ?_;refine yl4 d0 d1 d2 d3 ?_;refine ya ?_;refine a01 ?_;intro w3 he3 hS3
   iterate 12 (rintro _ rfl)
   dsimp only [a0y];go_simp;have he3 : Ext w2 w3 := he3;have HV3 := hid (HV2.o.ext he3);have HX3 := hid (HX.o.trans (HE.o.trans he3));have d0 := he3.cell d0;have d1 := he3.cell d1;have d2 := he3.cell d2;have d3 := he3.cell d3;clear he3;obtain ⟨hhi, rhi⟩ := RE.hi (k := j) a3h HV3.o HJ.o;obtain ⟨A9, hlo, rlo⟩ := RE.lo (k := j) a3h HV3.o HJ.o;have HHI := hid rhi;have HLO := hid rlo;clear rhi rlo;have HL1 := hid (show (L.take j).length <= 1000 by rw [List.length_take]; omega)
   have HL2 := hid (show (L.drop j).length <= 1000 by rw [List.length_drop]; omega)
   go_wp2
   refine a0Z 11 [41] [34, 38, 40] (fun a b => Ext a b ∧ Below (w3.heap.size) a b) (Below (w3.heap.size)) (fun _ => True) (by kernel_rfl) (by kernel_rfl) (by kernel_rfl) (by kernel_rfl) (by kernel_rfl) (by kernel_rfl) (by kernel_rfl) (by rfl) (by rfl) (by kernel_rfl) (by kernel_rfl) (by kernel_rfl) (fun _ _ _ x y => x.trans y) (Below.refl _) (fun _ _ x => x.2) (fun w => ⟨Ext.refl w, Below.refl _ w⟩) ⟨(Ext.refl _).drew, (Below.refl _ _).drew⟩ (fun _ _ _ _ => trivial) trivial ?_
   refine a0Y (fun c v w => c <= 0 -> E0 w3.heap.size 66 v w) rfl rfl (a03 rfl) rfl (a2T fun _ _ _ h k => E0.ext h k.1) ?_ ?_
   . intro a w' hR hS  K hK
     go_simp;exact hK _ _ ⟨(Ext.refl _).alloc _, (Below.refl _ _).alloc hR.size _⟩ fun _ => E0.new _ _ hR.size
   repeat (first | (refine a0p rfl rfl (fun _ => (a03 rfl)) (fun w => ⟨Ext.refl w, Below.refl _ w⟩) rfl rfl (fun _ => rfl) ?_; apply Exists.intro; refine ⟨?_, ?_⟩; · (go_simp; rfl)) | (refine a0r rfl rfl (fun _ => (a03 rfl)) (fun w => ⟨Ext.refl w, Below.refl _ w⟩) rfl ?_; apply Exists.intro; refine ⟨?_, ?_⟩; · (intro c a w' hR; (try (intro h1; try have e1 : _ = _ := h1)); (try (intro h2; try have e2 : _ = _ := h2)); (try (intro h3; try have e3 : _ = _ := h3)); go_simp; rfl)))
   refine a0Y (fun c v w => c <= 0 -> OE 66 w3.heap.size w v (L.take j)) rfl rfl (a03 rfl) rfl (a2T fun _ _ _ h k => OE.ext h k.1) ?_ ?_
   . intro a w' hR hS h1 h2 K hK
     obtain ⟨x, ex, fx⟩ : ∃ x, a.tmps.getD 34 undef = x ∧ (fun v w => 0 <= 0 -> E0 w3.heap.size 66 v w) x w' := ⟨_, rfl, h1⟩
     have e2 : _ = _ := h2;refine b1o a3h _ (.tmp 34) (.tmp 37) rfl x ex (fx (Nat.le_refl _)) _ (L.take j).length (eV (L.take j)) (e2 : a.tmps.getD 37 undef = _) (HHI.o.ext (show Ext w3 w' from hR)).rd (a2P _) (by have := HL1.o; omega) (by have := HL1.o; unfold maxLen; omega) ?_
     intro v' w2 he ho;exact hK _ _ ⟨he, Below.mono he hR.size⟩ fun _ => O0.oe ho
   repeat (first | (refine a0p rfl rfl (fun _ => (a03 rfl)) (fun w => ⟨Ext.refl w, Below.refl _ w⟩) rfl rfl (fun _ => rfl) ?_; apply Exists.intro; refine ⟨?_, ?_⟩; · (go_simp; rfl)) | (refine a0r rfl rfl (fun _ => (a03 rfl)) (fun w => ⟨Ext.refl w, Below.refl _ w⟩) rfl ?_; apply Exists.intro; refine ⟨?_, ?_⟩; · (intro c a w' hR; (try (intro h1; try have e1 : _ = _ := h1)); (try (intro h2; try have e2 : _ = _ := h2)); (try (intro h3; try have e3 : _ = _ := h3)); go_simp; rfl)))
   refine a0r rfl rfl (fun _ => (a03 rfl)) (fun w => ⟨Ext.refl w, Below.refl _ w⟩) rfl ?_; apply Exists.intro; refine ⟨?_, ?_⟩
   . intro c a w' hR h1
     have e1 : _ = _ := h1;have hl0 := (show Ext w3 w' from hR).cell d0;have hl1 := (show Ext w3 w' from hR).cell d1;have hl2 := (show Ext w3 w' from hR).cell d2;have hl3 := (show Ext w3 w' from hR).cell d3;go_simp;rfl
   refine a0Y (fun c v w => c <= 0 -> RE w v [((k1, k2), k3, k4)]) rfl rfl (a03 rfl) rfl (a2T fun _ _ _ h k => RE.ext h k.1) ?_ ?_
   . intro a w' hR hS h1 K hK
     have e1 : _ = _ := h1;have q9 : a.tmps[39]?.getD undef = .agg #[.int .i64 k1, .int .i64 k2, .int .i64 k3, .int .i64 k4] := by simpa using e1
     go_simp;exact hK _ _ ⟨(Ext.refl _).alloc _, (Below.refl _ _).alloc hR.size _⟩ fun _ => RE.lit _ #[.int .i64 k1, .int .i64 k2, .int .i64 k3, .int .i64 k4] 66 1 [((k1, k2), k3, k4)] rfl (by omega) rfl
   refine a3q (fun c v w => 1 <= c ∧ (c <= 1 -> OE 66 w3.heap.size w v (L.take j ++ [((k1, k2), k3, k4)]))) (fun _ => True) rfl (a03 rfl) rfl (a3F fun _ _ _ h k => OE.ext h k.1) (fun _ _ _ _ => trivial) ?_ ?_
   . intro a w' hR hS h1 h2 K hK
     obtain ⟨x, ex, fx⟩ : ∃ x, a.tmps.getD 38 undef = x ∧ (fun v w => 0 <= 0 -> OE 66 w3.heap.size w v (L.take j)) x w' := ⟨_, rfl, h1⟩
     obtain ⟨y, ey, fy⟩ : ∃ x, a.tmps.getD 40 undef = x ∧ (fun v w => 0 <= 0 -> RE w v [((k1, k2), k3, k4)]) x w' := ⟨_, rfl, h2⟩
     have hfx := fx (Nat.le_refl _);have hfy := fy (Nat.le_refl _);refine a7q a3h _ (.tmp 38) (.tmp 40) rfl w3.heap.size x (L.take j).length (eV (L.take j)) ex hfx.own y 1 (eV [((k1, k2), k3, k4)]) ey hfy.rd (a2P _) (by have := HL1.o; omega) (by have := HL1.o; unfold maxLen; omega) hR.size ?_
     intro v' w2 ha;exact hK _ _ (Below.grown (Below.refl _ _) ha.grown hR.size fun k hk => (hfx.own.lt k hk).1) trivial ⟨Nat.le_refl _, fun _ => OE.app ha.own⟩
   repeat (first | (refine a0p rfl rfl (fun _ => (a03 rfl)) (fun w => ⟨Ext.refl w, Below.refl _ w⟩) rfl rfl (fun _ => rfl) ?_; apply Exists.intro; refine ⟨?_, ?_⟩; · (go_simp; rfl)) | (refine a0r rfl rfl (fun _ => (a03 rfl)) (fun w => ⟨Ext.refl w, Below.refl _ w⟩) rfl ?_; apply Exists.intro; refine ⟨?_, ?_⟩; · (intro c a w' hR; (try (intro h1; try have e1 : _ = _ := h1)); (try (intro h2; try have e2 : _ = _ := h2)); (try (intro h3; try have e3 : _ = _ := h3)); go_simp; rfl)))
   refine a3E ?_;intro w6 hx6 hS6;rintro v34 h34
   iterate 3 (rintro _ rfl)
   rintro v38 h38;rintro _ rfl;rintro v40 h40;rintro v41 h41
   iterate 3 (rintro _ rfl)
   dsimp only [a0y];go_simp;have hx6 : Ext w3 w6 := hx6;have HX6 := hid hx6;have HO7 := hid (h41.2 (Nat.le_refl _));clear hx6 h34 h38 h40 h41 hS6 hhi hlo;simp only [a0n, List.drop_succ_cons, List.drop_zero]
   go_wp2_with (refine a07 rfl a3h w6 (.tmp 41) (.tmp 44) rfl w3.heap.size v41 _ _ _ rfl HO7.o rfl (HLO.o.ext HX6.o) (by have := HL1.o; have := HL2.o; rw [List.length_append, List.length_singleton]; omega) (by have := HL1.o; have := HL2.o; rw [List.length_append, List.length_singleton]; unfold maxLen; omega) HX6.o.size ?_; intro v8 w8 ho8 hb8 hg8)
   go_ret2
   refine ⟨_, by rw [HBM.o.trans (decide_eq_false HM.o)]; rfl, ?_, HX3.o.trans (Below.trans HX6.o hb8)⟩
   rw [HRL.o.trans (if_neg HM.o), HPK.o];exact ho8.re
 have r1 : ¬ (j : Int) < (L.length : Int) := by omega
 have r0 : 0 <= (j : Int) := by omega
 have HN := hid (show ∀ h : j < L.length, Fr.bfK ((k1, k2), k3, k4) L[j] = false from fun h => absurd h hlt)
 have HM := hid (show ((k1, k2), k3, k4) ∉ L from fun hm => by obtain ⟨h, _⟩ := (HME.o j HJ.o HF.o HN.o).1 hm; exact hlt h)
 have HPK := hid (HPA.o j HJ.o HF.o HN.o);have HV1 := hid ((HV.o.ext HX.o).ext hext);have r1n := hlt;clear hext hlt
 go_wp2
 refine yx ?_;refine ya ?_;refine a01 ?_;intro w2 he2 hS2
 iterate 12 (rintro _ rfl)
 dsimp only [a0y];go_simp;have he2 : Ext w1 w2 := he2;have HE := hid (HE.o.trans he2);have HV2 := hid (HV1.o.ext he2);have d0 := he2.cell d0;have d1 := he2.cell d1;have d2 := he2.cell d2;have d3 := he2.cell d3;clear he2
 go_wp2
 refine yx ?_;refine ya ?_;refine a01 ?_;intro w3 he3 hS3
 iterate 12 (rintro _ rfl)
 dsimp only [a0y];go_simp;have he3 : Ext w2 w3 := he3;have HV3 := hid (HV2.o.ext he3);have HX3 := hid (HX.o.trans (HE.o.trans he3));have d0 := he3.cell d0;have d1 := he3.cell d1;have d2 := he3.cell d2;have d3 := he3.cell d3;clear he3;obtain ⟨hhi, rhi⟩ := RE.hi (k := j) a3h HV3.o HJ.o;obtain ⟨A9, hlo, rlo⟩ := RE.lo (k := j) a3h HV3.o HJ.o;have HHI := hid rhi;have HLO := hid rlo;clear rhi rlo;have HL1 := hid (show (L.take j).length <= 1000 by rw [List.length_take]; omega)
 have HL2 := hid (show (L.drop j).length <= 1000 by rw [List.length_drop]; omega)
 go_wp2
 refine a0Z 11 [41] [34, 38, 40] (fun a b => Ext a b ∧ Below (w3.heap.size) a b) (Below (w3.heap.size)) (fun _ => True) (by kernel_rfl) (by kernel_rfl) (by kernel_rfl) (by kernel_rfl) (by kernel_rfl) (by kernel_rfl) (by kernel_rfl) (by rfl) (by rfl) (by kernel_rfl) (by kernel_rfl) (by kernel_rfl) (fun _ _ _ x y => x.trans y) (Below.refl _) (fun _ _ x => x.2) (fun w => ⟨Ext.refl w, Below.refl _ w⟩) ⟨(Ext.refl _).drew, (Below.refl _ _).drew⟩ (fun _ _ _ _ => trivial) trivial ?_
 refine a0Y (fun c v w => c <= 0 -> E0 w3.heap.size 66 v w) rfl rfl (a03 rfl) rfl (a2T fun _ _ _ h k => E0.ext h k.1) ?_ ?_
 . intro a w' hR hS  K hK
   go_simp;exact hK _ _ ⟨(Ext.refl _).alloc _, (Below.refl _ _).alloc hR.size _⟩ fun _ => E0.new _ _ hR.size
 repeat (first | (refine a0p rfl rfl (fun _ => (a03 rfl)) (fun w => ⟨Ext.refl w, Below.refl _ w⟩) rfl rfl (fun _ => rfl) ?_; apply Exists.intro; refine ⟨?_, ?_⟩; · (go_simp; rfl)) | (refine a0r rfl rfl (fun _ => (a03 rfl)) (fun w => ⟨Ext.refl w, Below.refl _ w⟩) rfl ?_; apply Exists.intro; refine ⟨?_, ?_⟩; · (intro c a w' hR; (try (intro h1; try have e1 : _ = _ := h1)); (try (intro h2; try have e2 : _ = _ := h2)); (try (intro h3; try have e3 : _ = _ := h3)); go_simp; rfl)))
 refine a0Y (fun c v w => c <= 0 -> OE 66 w3.heap.size w v (L.take j)) rfl rfl (a03 rfl) rfl (a2T fun _ _ _ h k => OE.ext h k.1) ?_ ?_
 . intro a w' hR hS h1 h2 K hK
   obtain ⟨x, ex, fx⟩ : ∃ x, a.tmps.getD 34 undef = x ∧ (fun v w => 0 <= 0 -> E0 w3.heap.size 66 v w) x w' := ⟨_, rfl, h1⟩
   have e2 : _ = _ := h2;refine b1o a3h _ (.tmp 34) (.tmp 37) rfl x ex (fx (Nat.le_refl _)) _ (L.take j).length (eV (L.take j)) (e2 : a.tmps.getD 37 undef = _) (HHI.o.ext (show Ext w3 w' from hR)).rd (a2P _) (by have := HL1.o; omega) (by have := HL1.o; unfold maxLen; omega) ?_
   intro v' w2 he ho;exact hK _ _ ⟨he, Below.mono he hR.size⟩ fun _ => O0.oe ho
 repeat (first | (refine a0p rfl rfl (fun _ => (a03 rfl)) (fun w => ⟨Ext.refl w, Below.refl _ w⟩) rfl rfl (fun _ => rfl) ?_; apply Exists.intro; refine ⟨?_, ?_⟩; · (go_simp; rfl)) | (refine a0r rfl rfl (fun _ => (a03 rfl)) (fun w => ⟨Ext.refl w, Below.refl _ w⟩) rfl ?_; apply Exists.intro; refine ⟨?_, ?_⟩; · (intro c a w' hR; (try (intro h1; try have e1 : _ = _ := h1)); (try (intro h2; try have e2 : _ = _ := h2)); (try (intro h3; try have e3 : _ = _ := h3)); go_simp; rfl)))
 refine a0r rfl rfl (fun _ => (a03 rfl)) (fun w => ⟨Ext.refl w, Below.refl _ w⟩) rfl ?_; apply Exists.intro; refine ⟨?_, ?_⟩
 . intro c a w' hR h1
   have e1 : _ = _ := h1;have hl0 := (show Ext w3 w' from hR).cell d0;have hl1 := (show Ext w3 w' from hR).cell d1;have hl2 := (show Ext w3 w' from hR).cell d2;have hl3 := (show Ext w3 w' from hR).cell d3;go_simp;rfl
 refine a0Y (fun c v w => c <= 0 -> RE w v [((k1, k2), k3, k4)]) rfl rfl (a03 rfl) rfl (a2T fun _ _ _ h k => RE.ext h k.1) ?_ ?_
 . intro a w' hR hS h1 K hK
   have e1 : _ = _ := h1;have q9 : a.tmps[39]?.getD undef = .agg #[.int .i64 k1, .int .i64 k2, .int .i64 k3, .int .i64 k4] := by simpa using e1
   go_simp;exact hK _ _ ⟨(Ext.refl _).alloc _, (Below.refl _ _).alloc hR.size _⟩ fun _ => RE.lit _ #[.int .i64 k1, .int .i64 k2, .int .i64 k3, .int .i64 k4] 66 1 [((k1, k2), k3, k4)] rfl (by omega) rfl
 refine a3q (fun c v w => 1 <= c ∧ (c <= 1 -> OE 66 w3.heap.size w v (L.take j ++ [((k1, k2), k3, k4)]))) (fun _ => True) rfl (a03 rfl) rfl (a3F fun _ _ _ h k => OE.ext h k.1) (fun _ _ _ _ => trivial) ?_ ?_
 . intro a w' hR hS h1 h2 K hK
   obtain ⟨x, ex, fx⟩ : ∃ x, a.tmps.getD 38 undef = x ∧ (fun v w => 0 <= 0 -> OE 66 w3.heap.size w v (L.take j)) x w' := ⟨_, rfl, h1⟩
   obtain ⟨y, ey, fy⟩ : ∃ x, a.tmps.getD 40 undef = x ∧ (fun v w => 0 <= 0 -> RE w v [((k1, k2), k3, k4)]) x w' := ⟨_, rfl, h2⟩
   have hfx := fx (Nat.le_refl _);have hfy := fy (Nat.le_refl _);refine a7q a3h _ (.tmp 38) (.tmp 40) rfl w3.heap.size x (L.take j).length (eV (L.take j)) ex hfx.own y 1 (eV [((k1, k2), k3, k4)]) ey hfy.rd (a2P _) (by have := HL1.o; omega) (by have := HL1.o; unfold maxLen; omega) hR.size ?_
   intro v' w2 ha;exact hK _ _ (Below.grown (Below.refl _ _) ha.grown hR.size fun k hk => (hfx.own.lt k hk).1) trivial ⟨Nat.le_refl _, fun _ => OE.app ha.own⟩
 repeat (first | (refine a0p rfl rfl (fun _ => (a03 rfl)) (fun w => ⟨Ext.refl w, Below.refl _ w⟩) rfl rfl (fun _ => rfl) ?_; apply Exists.intro; refine ⟨?_, ?_⟩; · (go_simp; rfl)) | (refine a0r rfl rfl (fun _ => (a03 rfl)) (fun w => ⟨Ext.refl w, Below.refl _ w⟩) rfl ?_; apply Exists.intro; refine ⟨?_, ?_⟩; · (intro c a w' hR; (try (intro h1; try have e1 : _ = _ := h1)); (try (intro h2; try have e2 : _ = _ := h2)); (try (intro h3; try have e3 : _ = _ := h3)); go_simp; rfl)))
 refine a3E ?_;intro w6 hx6 hS6;rintro v34 h34
 iterate 3 (rintro _ rfl)
 rintro v38 h38;rintro _ rfl;rintro v40 h40;rintro v41 h41
 iterate 3 (rintro _ rfl)
 dsimp only [a0y];go_simp;have hx6 : Ext w3 w6 := hx6;have HX6 := hid hx6;have HO7 := hid (h41.2 (Nat.le_refl _));clear hx6 h34 h38 h40 h41 hS6 hhi hlo;simp only [a0n, List.drop_succ_cons, List.drop_zero]
 go_wp2_with (refine a07 rfl a3h w6 (.tmp 41) (.tmp 44) rfl w3.heap.size v41 _ _ _ rfl HO7.o rfl (HLO.o.ext HX6.o) (by have := HL1.o; have := HL2.o; rw [List.length_append, List.length_singleton]; omega) (by have := HL1.o; have := HL2.o; rw [List.length_append, List.length_singleton]; unfold maxLen; omega) HX6.o.size ?_; intro v8 w8 ho8 hb8 hg8)
 go_ret2
 refine ⟨_, by rw [HBM.o.trans (decide_eq_false HM.o)]; rfl, ?_, HX3.o.trans (Below.trans HX6.o hb8)⟩
 rw [HRL.o.trans (if_neg HM.o), HPK.o];exact ho8.re
end Go.Proofs.YtdkejfjcchlnpaaGreat
namespace Go.Proofs.YtdkejfjcchlnpaaGreat
open Go.RowKit Go.Ox Go.ChangeShapes Go.WideShapes Ct
abbrev FOp := Int × Cnt.S
instance encF : Enc FOp where
 k := 6
 enc x := [.int .i64 x.1, .int .i64 x.2.1.1.1, .int .i64 x.2.1.1.2, .int .i64 x.2.1.2.1, .int .i64 x.2.1.2.2, .int .i64 x.2.2]
 len _ := rfl
 pos := by omega
 one x u hu := by simp at hu; rcases hu with rfl | rfl | rfl | rfl | rfl | rfl <;> rfl
theorem rows6F {cs : List Value} (h : a2R [.int .i64, .int .i64, .int .i64, .int .i64, .int .i64, .int .i64] cs) : ∃ x : FOp, cs = encF.enc x := by
 obtain ⟨f, cs, rfl, _, h⟩ := a2i h;obtain ⟨a, cs, rfl, _, h⟩ := a2i h;obtain ⟨b, cs, rfl, _, h⟩ := a2i h;obtain ⟨c, cs, rfl, _, h⟩ := a2i h;obtain ⟨d, cs, rfl, _, h⟩ := a2i h;obtain ⟨e, cs, rfl, _, h⟩ := a2i h;obtain rfl := b1A h;exact ⟨(f, (((a, b), c, d), e)), rfl⟩
section
variable {H : Type} {enc : TypeId × Value -> H} {W : World} {base : Nat} {sp : Nat -> Bool} {held : Bool} {v : Value} {d : DataW H} {p : List MemPlace} {r : Reach} {b0 : Nat}
theorem b3n : ∀ (rows : List (List Value)), (∀ x ∈ rows, a2R [.int .i64, .int .i64, .int .i64, .int .i64, .int .i64, .int .i64] x) -> ∃ l : List FOp, rows.length = l.length ∧ rows.flatten = eV l
 | [], _ => ⟨[], rfl, rfl⟩
 | r :: rows, h => by
  obtain ⟨l, h1, h2⟩ := b3n rows fun x hx => h x (List.mem_cons_of_mem _ hx)
  obtain ⟨x, rfl⟩ := rows6F (h r (List.mem_cons_self ..));exact ⟨x :: l, by simp [h1], by rw [List.flatten_cons, h2]; rfl⟩
theorem b72 (hv : Value.okWide Tryz.prog W r b0 54 v) (h : DataW.Trod enc Tryz.prog W base sp held 54 v d p) :
 ∃ l : List FOp, RE W v l := by
 obtain ⟨rows, hr, hx⟩ := a8D (n := 8) (ks := [.int .i64, .int .i64, .int .i64, .int .i64, .int .i64, .int .i64]) Tryz.underlying54 (by kernel_rfl) (by kernel_rfl) (by decide) hv h
 obtain ⟨l, h1, h2⟩ := b3n rows hx;rw [h1, h2] at hr;exact ⟨l, hr⟩
theorem re6F {w : World} {A : Option Addr} {n c : Nat} {l : List FOp} (h : RE w (.slice A n c) l) {k : Nat} (hk : k < l.length) :
 ∃ b o, A = some ⟨b, o, none⟩ ∧ w.cell? ⟨b, o + k * 6, none⟩ = some (.int .i64 l[k].1) ∧ w.cell? ⟨b, o + k * 6 + 1, none⟩ = some (.int .i64 l[k].2.1.1.1) ∧ w.cell? ⟨b, o + k * 6 + 2, none⟩ = some (.int .i64 l[k].2.1.1.2) ∧ w.cell? ⟨b, o + k * 6 + 3, none⟩ = some (.int .i64 l[k].2.1.2.1) ∧ w.cell? ⟨b, o + k * 6 + 4, none⟩ = some (.int .i64 l[k].2.1.2.2) ∧ w.cell? ⟨b, o + k * 6 + 5, none⟩ = some (.int .i64 l[k].2.2) := by
 obtain ⟨b, o, e, h2⟩ := h.at_ hk;exact ⟨b, o, e, h2 0 _ rfl, h2 1 _ rfl, h2 2 _ rfl, h2 3 _ rfl, h2 4 _ rfl, h2 5 _ rfl⟩
end
end Go.Proofs.YtdkejfjcchlnpaaGreat
namespace Go.Ox.Gr
open Go.RowKit
def b3o : List Nd := [.mk 10 [] 0 0 0 [], .mk 11 [] 0 0 0 [], .mk 6 [0, 1] 23 0 0 [], .mk 2 [2] 3 0 0 [], .mk 2 [3] 5 1 0 [], .mk 8 [0, 4] 0 0 0 [], .mk 7 [5] 0 0 0 []]
def b06 (n : Int) : List Nd := [.mk 1 [] 0 0 0 [], .mk 1 [] 0 0 1 [], .mk 9 [1] 0 0 n b3o]
def a2Z : List Nd := b06 9
def ndC (op kind fa a : Int) (u b : Value) : List Value := [.int .i64 op, u, .int .i64 kind, .int .i64 fa, .int .i64 a, b]
theorem NdQ.mk {d : Nat} {w : World} {op kind fa a : Int} {u b : Value} {ins : List Int} {body : List Nd} (hu : RE w u ins) (hb : a00 d w b body) : NdQ (a00 d) w (ndC op kind fa a u b) (.mk op ins kind fa a body) := ⟨u, b, rfl, hu, hb⟩
def a8n (Q : List Value -> Nd -> Prop) : List (List Value) -> List Nd -> Prop
 | [], [] => True
 | r :: rs, x :: xs => (r.length = 6 ∧ Q r x) ∧ a8n Q rs xs
 | _, _ => False
theorem a8n.len {Q : List Value -> Nd -> Prop} : ∀ {rs : List (List Value)} {xs : List Nd}, a8n Q rs xs -> rs.length = xs.length
 | [], [], _ => rfl
 | [], _ :: _, h => h.elim
 | _ :: _, [], h => h.elim
 | _ :: rs, _ :: xs, h => by simp [a8n.len h.2]
theorem a8n.at_ {Q : List Value -> Nd -> Prop} : ∀ {rs : List (List Value)} {xs : List Nd}, a8n Q rs xs -> ∀ (i : Nat) (r : List Value) (x : Nd), rs[i]? = some r -> xs[i]? = some x -> r.length = 6 ∧ Q r x
 | [], [], _, _, _, _, h, _ => by simp at h
 | [], _ :: _, h, _, _, _, _, _ => h.elim
 | _ :: _, [], h, _, _, _, _, _ => h.elim
 | r :: rs, x :: xs, h, i, r', x', hr, hx => by
  cases i with
  | zero => simp at hr hx; subst hr; subst hx; exact h.1
  | succ i => simp at hr hx; exact a8n.at_ h.2 i r' x' hr hx
theorem a00.lit {w w' : World} {d n : Nat} (cells : Array Value) (E : TypeId) (rows : List (List Value)) (l : List Nd) (hw : w' = w.alloc (.cells cells E)) (hn : rows.length = n) (hm : n <= maxLen) (hc : cells.toList = rows.flatten) (hcs : cells.size = n * 6) (h : a8n (NdQ (a00 d) w') rows l) :
 a00 (d + 1) w' (.slice (some ⟨w.heap.size, 0, none⟩) n n) l := by
 refine a00.b0s ⟨rows, ?_, h.len, h.at_⟩;rw [hn, <- hc, hw];exact Rd.a4u (base := w.heap.size) (World.ownsRow_lit w cells n (Nat.le_refl _) hm hcs)
end Go.Ox.Gr
namespace Go.Proofs.YtdkejfjcchlnpaaGreat
open Go.RowKit Go.Ox Go.Ox.Gr
theorem b3p {n : Int} {w w0 w1 w2 w3 w4 w5 w6 w7 w8 : World}
 (h0 : w0 = w.alloc (.cells #[.slice (some ⟨w.heap.size + 1 + 1 + 1 + 1 + 1 + 1 + 1 + 1, 0, none⟩) 3 3, .int .i64 2] 24))
 (h1 : w1 = w0.alloc (.cells #[.int .i64 1] 3))
 (h2 : w2 = w1.alloc (.cells #[.int .i64 0, .int .i64 1] 3))
 (h3 : w3 = w2.alloc (.cells #[.int .i64 2] 3))
 (h4 : w4 = w3.alloc (.cells #[.int .i64 3] 3))
 (h5 : w5 = w4.alloc (.cells #[.int .i64 0, .int .i64 4] 3))
 (h6 : w6 = w5.alloc (.cells #[.int .i64 5] 3))
 (h7 : w7 = w6.alloc (.cells #[.int .i64 10, .slice none 0 0, .int .i64 0, .int .i64 0, .int .i64 0, .slice none 0 0, .int .i64 11, .slice none 0 0, .int .i64 0, .int .i64 0, .int .i64 0, .slice none 0 0,
  .int .i64 6, .slice (some ⟨w.heap.size + 1 + 1, 0, none⟩) 2 2, .int .i64 23, .int .i64 0, .int .i64 0, .slice none 0 0, .int .i64 2, .slice (some ⟨w.heap.size + 1 + 1 + 1, 0, none⟩) 1 1, .int .i64 3, .int .i64 0, .int .i64 0, .slice none 0 0,
  .int .i64 2, .slice (some ⟨w.heap.size + 1 + 1 + 1 + 1, 0, none⟩) 1 1, .int .i64 5, .int .i64 1, .int .i64 0, .slice none 0 0, .int .i64 8, .slice (some ⟨w.heap.size + 1 + 1 + 1 + 1 + 1, 0, none⟩) 2 2, .int .i64 0, .int .i64 0, .int .i64 0, .slice none 0 0,
  .int .i64 7, .slice (some ⟨w.heap.size + 1 + 1 + 1 + 1 + 1 + 1, 0, none⟩) 1 1, .int .i64 0, .int .i64 0, .int .i64 0, .slice none 0 0] 101))
 (h8 : w8 = w7.alloc (.cells #[.int .i64 1, .slice none 0 0, .int .i64 0, .int .i64 0, .int .i64 0, .slice none 0 0, .int .i64 1, .slice none 0 0, .int .i64 0, .int .i64 0, .int .i64 1, .slice none 0 0,
  .int .i64 9, .slice (some ⟨w.heap.size + 1, 0, none⟩) 1 1, .int .i64 0, .int .i64 0, .int .i64 n, .slice (some ⟨w.heap.size + 1 + 1 + 1 + 1 + 1 + 1 + 1, 0, none⟩) 7 7] 101)) :
 Blk w8 w.heap.size 24 #[.slice (some ⟨w.heap.size + 1 + 1 + 1 + 1 + 1 + 1 + 1 + 1, 0, none⟩) 3 3, .int .i64 2] ∧ a00 2 w8 (.slice (some ⟨w.heap.size + 1 + 1 + 1 + 1 + 1 + 1 + 1 + 1, 0, none⟩) 3 3) (b06 n) ∧ Ext w w8 := by
 have s0 : w0.heap.size = w.heap.size + 1 := by rw [h0]; simp
 have s1 : w1.heap.size = w.heap.size + 1 + 1 := by rw [h1, <- s0]; simp
 have s2 : w2.heap.size = w.heap.size + 1 + 1 + 1 := by rw [h2, <- s1]; simp
 have s3 : w3.heap.size = w.heap.size + 1 + 1 + 1 + 1 := by rw [h3, <- s2]; simp
 have s4 : w4.heap.size = w.heap.size + 1 + 1 + 1 + 1 + 1 := by rw [h4, <- s3]; simp
 have s5 : w5.heap.size = w.heap.size + 1 + 1 + 1 + 1 + 1 + 1 := by rw [h5, <- s4]; simp
 have s6 : w6.heap.size = w.heap.size + 1 + 1 + 1 + 1 + 1 + 1 + 1 := by rw [h6, <- s5]; simp
 have s7 : w7.heap.size = w.heap.size + 1 + 1 + 1 + 1 + 1 + 1 + 1 + 1 := by rw [h7, <- s6]; simp
 have b0 : Blk w0 w.heap.size 24 #[.slice (some ⟨w.heap.size + 1 + 1 + 1 + 1 + 1 + 1 + 1 + 1, 0, none⟩) 3 3, .int .i64 2] := by rw [h0]; exact Blk.new _ _ _
 have r1 : RE w1 (.slice (some ⟨w.heap.size + 1, 0, none⟩) 1 1) ([1] : List Int) := by rw [<- s0, h1]; exact RE.lit w0 #[.int .i64 1] 3 1 [1] rfl (by omega) rfl
 have r2 : RE w2 (.slice (some ⟨w.heap.size + 1 + 1, 0, none⟩) 2 2) ([0, 1] : List Int) := by rw [<- s1, h2]; exact RE.lit w1 #[.int .i64 0, .int .i64 1] 3 2 [0, 1] rfl (by omega) rfl
 have r3 : RE w3 (.slice (some ⟨w.heap.size + 1 + 1 + 1, 0, none⟩) 1 1) ([2] : List Int) := by rw [<- s2, h3]; exact RE.lit w2 #[.int .i64 2] 3 1 [2] rfl (by omega) rfl
 have r4 : RE w4 (.slice (some ⟨w.heap.size + 1 + 1 + 1 + 1, 0, none⟩) 1 1) ([3] : List Int) := by rw [<- s3, h4]; exact RE.lit w3 #[.int .i64 3] 3 1 [3] rfl (by omega) rfl
 have r5 : RE w5 (.slice (some ⟨w.heap.size + 1 + 1 + 1 + 1 + 1, 0, none⟩) 2 2) ([0, 4] : List Int) := by rw [<- s4, h5]; exact RE.lit w4 #[.int .i64 0, .int .i64 4] 3 2 [0, 4] rfl (by omega) rfl
 have r6 : RE w6 (.slice (some ⟨w.heap.size + 1 + 1 + 1 + 1 + 1 + 1, 0, none⟩) 1 1) ([5] : List Int) := by rw [<- s5, h6]; exact RE.lit w5 #[.int .i64 5] 3 1 [5] rfl (by omega) rfl
 have e1 : Ext w0 w1 := by rw [h1]; exact (Ext.refl _).alloc _
 have e2 : Ext w1 w2 := by rw [h2]; exact (Ext.refl _).alloc _
 have e3 : Ext w2 w3 := by rw [h3]; exact (Ext.refl _).alloc _
 have e4 : Ext w3 w4 := by rw [h4]; exact (Ext.refl _).alloc _
 have e5 : Ext w4 w5 := by rw [h5]; exact (Ext.refl _).alloc _
 have e6 : Ext w5 w6 := by rw [h6]; exact (Ext.refl _).alloc _
 have e7 : Ext w6 w7 := by rw [h7]; exact (Ext.refl _).alloc _
 have e8 : Ext w7 w8 := by rw [h8]; exact (Ext.refl _).alloc _
 have e0 : Ext w w0 := by rw [h0]; exact (Ext.refl _).alloc _
 have n7 : a00 1 w7 (.slice (some ⟨w.heap.size + 1 + 1 + 1 + 1 + 1 + 1 + 1, 0, none⟩) 7 7) b3o := by
  rw [<- s6]
  refine a00.lit _ 101 [ndC 10 0 0 0 (.slice none 0 0) (.slice none 0 0), ndC 11 0 0 0 (.slice none 0 0) (.slice none 0 0), ndC 6 23 0 0 (.slice (some ⟨w.heap.size + 1 + 1, 0, none⟩) 2 2) (.slice none 0 0),
   ndC 2 3 0 0 (.slice (some ⟨w.heap.size + 1 + 1 + 1, 0, none⟩) 1 1) (.slice none 0 0), ndC 2 5 1 0 (.slice (some ⟨w.heap.size + 1 + 1 + 1 + 1, 0, none⟩) 1 1) (.slice none 0 0),
   ndC 8 0 0 0 (.slice (some ⟨w.heap.size + 1 + 1 + 1 + 1 + 1, 0, none⟩) 2 2) (.slice none 0 0), ndC 7 0 0 0 (.slice (some ⟨w.heap.size + 1 + 1 + 1 + 1 + 1 + 1, 0, none⟩) 1 1) (.slice none 0 0)] b3o h7 rfl (by unfold maxLen; omega) rfl rfl ?_
  have f2 := (((r2.ext e3).ext e4).ext e5).ext e6 |>.ext e7;have f3 := ((r3.ext e4).ext e5).ext e6 |>.ext e7;have f4 := (r4.ext e5).ext e6 |>.ext e7;have f5 := (r5.ext e6).ext e7;have f6 := r6.ext e7;exact ⟨⟨rfl, NdQ.mk (OE.a2g 3 0 _).re (a00.nil _ _)⟩, ⟨rfl, NdQ.mk (OE.a2g 3 0 _).re (a00.nil _ _)⟩, ⟨rfl, NdQ.mk f2 (a00.nil _ _)⟩, ⟨rfl, NdQ.mk f3 (a00.nil _ _)⟩, ⟨rfl, NdQ.mk f4 (a00.nil _ _)⟩, ⟨rfl, NdQ.mk f5 (a00.nil _ _)⟩, ⟨rfl, NdQ.mk f6 (a00.nil _ _)⟩, trivial⟩
 refine ⟨(((((((b0.ext e1).ext e2).ext e3).ext e4).ext e5).ext e6).ext e7).ext e8, ?_, ((((((((e0.trans e1).trans e2).trans e3).trans e4).trans e5).trans e6).trans e7).trans e8)⟩;rw [<- s7];refine a00.lit _ 101 [ndC 1 0 0 0 (.slice none 0 0) (.slice none 0 0), ndC 1 0 0 1 (.slice none 0 0) (.slice none 0 0), ndC 9 0 0 n (.slice (some ⟨w.heap.size + 1, 0, none⟩) 1 1) (.slice (some ⟨w.heap.size + 1 + 1 + 1 + 1 + 1 + 1 + 1, 0, none⟩) 7 7)] (b06 n) h8 rfl (by unfold maxLen; omega) rfl rfl ?_
 have f1 := ((((((r1.ext e2).ext e3).ext e4).ext e5).ext e6).ext e7).ext e8;exact ⟨⟨rfl, NdQ.mk (OE.a2g 3 0 _).re (a00.nil _ _)⟩, ⟨rfl, NdQ.mk (OE.a2g 3 0 _).re (a00.nil _ _)⟩, ⟨rfl, NdQ.mk f1 (n7.ext e8)⟩, trivial⟩
attribute [local irreducible] RE OE a00
theorem b1c (n : Int) (w : World) : Calls Tryz.prog 36 #[.int .i64 n] w fun e w' => ∃ u, e = .returned (gAg u 2) ∧ a00 2 w' u (b06 n) ∧ Ext w w' := by
 have HM := hid (b3p (n := n) (w := w) rfl rfl rfl rfl rfl rfl rfl rfl rfl)
 go_enter Tryz.func36, Tryz.ntmps36
 go_upto_region 1 with fail
 go_wp2
 obtain ⟨hb, hn, hx⟩ := HM.o;have y0 := hb.cell 0;have y1 := hb.cell 1;exact bodyPost_ret (v := gAg _ 2) (by simp [results, Tryz.results36, go_sem, y0, y1]) rfl ⟨_, rfl, hn, hx⟩
theorem b3q (w : World) : Calls Tryz.prog 36 #[.int .i64 9] w fun e w' => ∃ u, e = .returned (gAg u 2) ∧ a00 2 w' u a2Z ∧ Ext w w' := b1c 9 w
end Go.Proofs.YtdkejfjcchlnpaaGreat
namespace Go.Proofs.YtdkejfjcchlnpaaGreat.Ct
open Go.RowKit Go.Ox Go.Shelf Mo
attribute [local irreducible] OP RP
structure XM (w : World) (g : Nat) (L : List Cnt.S) : Prop where
 row : ∃ v, Blk w g 61 #[v] ∧ RE w v L
 good : Cnt.Good L
theorem XM.ext {w w' : World} {g : Nat} {L : List Cnt.S} (h : XM w g L) (he : Ext w w') : XM w' g L := by
 obtain ⟨v, h1, h2⟩ := h.row;exact ⟨⟨v, h1.ext he, h2.ext he⟩, h.good⟩
theorem XM.a1c {w w' : World} {g c : Nat} {L : List Cnt.S} (h : XM w g L) (he : ExtM c w w') (hc : g ≠ c) : XM w' g L := by
 obtain ⟨v, h1, h2⟩ := h.row;exact ⟨⟨v, h1.a1c he hc, Rd.a1c h2 he⟩, h.good⟩
theorem b51 {L : List Cnt.S} (hg : Cnt.Good L) {k : Cnt.K} {i : Nat} (hi : i < L.length) (h : L[i].1 = k) : Cnt.was L k = L[i].2 := by
 refine Cnt.b2V hg ?_;rw [<- h];exact List.getElem_mem hi
theorem none_s {L : List Cnt.S} {k : Cnt.K} {i : Nat} (hi : i < L.length) (h : ∀ x ∈ L.take i, x.1 ≠ k) (hne : L[i].1 ≠ k) : ∀ x ∈ L.take (i + 1), x.1 ≠ k := by
 intro x hx;rw [List.take_succ_eq_append_getElem hi] at hx
 rcases List.mem_append.1 hx with hx | hx
 . exact h x hx
 rw [List.mem_singleton.1 hx]; exact hne
theorem b3r (w : World) (g : Nat) (L : List Cnt.S) (h : XM w g L) (hl : L.length <= 1000000) (k : Cnt.K) :
 Calls Tryz.prog 63 #[.pointer (some ⟨g, 0, none⟩), pV2 k.1, pV2 k.2] w fun e w' => e = .returned (.int .i64 (Cnt.was L k)) ∧ Ext w w' := by
 obtain ⟨⟨k1, k2⟩, k3, k4⟩ := k;dsimp only;have hx : Ext w ((w.alloc (.cells #[.int .i64 k1, .int .i64 k2] 27)).alloc (.cells #[.int .i64 k3, .int .i64 k4] 29)) := ((Ext.refl _).alloc _).alloc _;have HB := hid (b5I w (.int .i64 k1) (.int .i64 k2) (.int .i64 k3) (.int .i64 k4));obtain ⟨v, hb, hr⟩ := h.row;have hgd := h.good;obtain ⟨A, c, rfl⟩ := hr.form;have HBL := hid (hb.ext hx);have HR := hid (hr.ext hx);have HX := hid hx;have hE := b5o;have hE2 := eqM;have hG := b33;have hG2 := a9X;clear h hb hr hx
 go_enter Tryz.func63, Tryz.ntmps63
 go_wp2
 generalize hw0 : ((w.alloc (.cells #[.int .i64 k1, .int .i64 k2] 27)).alloc (.cells #[.int .i64 k3, .int .i64 k4] 29)) = w0 at *;clear hw0
 go_loopw [7] (fun i wr => ∃ j : Nat, j <= L.length ∧ i = .int .i64 j ∧ (∀ x ∈ L.take j, x.1 ≠ ((k1, k2), k3, k4)) ∧ Ext w0 wr) (fun i _ => L.length - (intOf i).toNat)
 case atStart => exact ⟨0, Nat.zero_le _, rfl, by simp, Ext.refl _⟩
 case round =>
 obtain ⟨j, hj, rfl, hno, hext⟩ := hrel;have HN := hid hno;have HE := hid hext;have cb := (HBL.o.ext hext).c0;clear hno
 by_cases hlt : j < L.length
 . have g1 : (j : Int) < (L.length : Int) := by omega
   have g0 : 0 <= (j : Int) := by omega
   obtain ⟨bA, oA, rfl, c0, c1, c2, c3, c4⟩ := re5 (HR.o.ext hext) hlt;obtain ⟨p0, p1, m0, m1⟩ := HB.o;have p0 := hext.cell p0;have p1 := hext.cell p1;have m0 := hext.cell m0;have m1 := hext.cell m1;have HF := hid (b51 (k := ((k1, k2), k3, k4)) hgd hlt);have HNS := hid (none_s (k := ((k1, k2), k3, k4)) hlt HN.o);generalize L[j] = x at *;obtain ⟨⟨⟨x1, x2⟩, x3, x4⟩, x5⟩ := x;dsimp only at *;clear hext;generalize w.heap.size = n at *
   by_cases hp : (x1, x2) = (k1, k2)
   . by_cases hm : (x3, x4) = (k3, k4)
     . have d1 := a2b hp
       have d2 := a2b hm;have HW := hid (HF.o (by rw [hp, hm]))
       clear hp hm HF HNS
       go_wp2
       refine a0z (by kernel_rfl) (by rfl) (by rfl) (by kernel_rfl) ?_
       refine ma ?_;refine ml1 cb ?_;refine ma ?_;refine ml2 c0 c1 ?_;refine ml2 p0 p1 ?_;refine ma ?_;refine ml1 cb ?_;refine ma ?_;refine ml2 c2 c3 ?_;refine ml2 m0 m1 ?_;refine ma ?_;refine a1T ?_;intro w5 hx5
       iterate 22 (rintro _ rfl)
       dsimp only [a0y];go_simp;have cb := hx5.cell cb;have c4 := hx5.cell c4;have HX5 := hid (HE.o.trans hx5);clear hx5
       go_wp2
       go_ret
       rw [HW.o];exact ⟨rfl, HX.o.trans HX5.o⟩
     have d1 := a2b hp;have d2 := a2D hm;have HW := hid (HNS.o (by intro q; injection q with _ q; exact hm q))
     clear hp hm HF HNS
     go_wp2
     refine a0z (by kernel_rfl) (by rfl) (by rfl) (by kernel_rfl) ?_
     refine ma ?_;refine ml1 cb ?_;refine ma ?_;refine ml2 c0 c1 ?_;refine ml2 p0 p1 ?_;refine ma ?_;refine ml1 cb ?_;refine ma ?_;refine ml2 c2 c3 ?_;refine ml2 m0 m1 ?_;refine ma ?_;refine a1T ?_;intro w5 hx5
     iterate 22 (rintro _ rfl)
     dsimp only [a0y];go_simp;have HX5 := hid (HE.o.trans hx5);clear hx5
     go_wp2
     exact ⟨⟨j + 1, by omega, by go_num, HW.o, HX5.o⟩, by simp [intOf]; omega⟩
   have d1 := a2D hp;have HW := hid (HNS.o (by intro q; injection q with q _; exact hp q))
   clear hp HF HNS
   go_wp2
   refine a0z (by kernel_rfl) (by rfl) (by rfl) (by kernel_rfl) ?_
   refine ma ?_;refine ml1 cb ?_;refine ma ?_;refine ml2 c0 c1 ?_;refine ml2 p0 p1 ?_;refine ma ?_;refine a1T ?_;intro w5 hx5
   iterate 22 (rintro _ rfl)
   dsimp only [a0y];go_simp;have HX5 := hid (HE.o.trans hx5);clear hx5
   go_wp2
   exact ⟨⟨j + 1, by omega, by go_num, HW.o, HX5.o⟩, by simp [intOf]; omega⟩
 obtain rfl : j = L.length := by omega
 have g1 : ¬ (L.length : Int) < (L.length : Int) := by omega
 have HW := hid (Cnt.b2W (L := L) (k := ((k1, k2), k3, k4)) (by have := HN.o; rwa [List.take_length] at this))
 clear hext
 go_wp2
 go_ret
 rw [HW.o];exact ⟨rfl, HX.o.trans HE.o⟩
end Go.Proofs.YtdkejfjcchlnpaaGreat.Ct
namespace Go.Proofs.YtdkejfjcchlnpaaGreat.Ct
open Go.RowKit Go.Ox Go.Shelf Mo
attribute [local irreducible] OP RP
theorem a9e (x y : Cnt.S) (w : World) : Calls Tryz.prog 64 #[sV x, sV y] w fun e w' => e = .returned (.bool (decide (Cnt.klt x.1 y.1))) ∧ Ext w w' := by
 have HK := hid (show ∀ m : Int, m = Mom.cmp x.1.2 y.1.2 -> (x.1.1 = y.1.1) -> decide (m < 0) = decide (Cnt.klt x.1 y.1) from fun m hm hq => by
  subst hm;rw [decide_eq_decide, Mom.a65];unfold Cnt.klt;constructor
  . intro h; exact .inr ⟨hq, h⟩
  rintro (h | h)
  . rw [hq] at h; exact absurd h (Mom.lt_irrefl _)
  exact h.2)
 have HK2 := hid (show x.1.1.1 ≠ y.1.1.1 -> decide (x.1.1.1 < y.1.1.1) = decide (Cnt.klt x.1 y.1) from fun hq => by
  rw [decide_eq_decide];unfold Cnt.klt Mom.lt;constructor
  . intro h; exact .inl (.inl h)
  rintro ((h | h) | h)
  . exact h
  . exact absurd h.1 hq
  exact absurd (by rw [h.1]) hq)
 have HK3 := hid (show x.1.1.1 = y.1.1.1 -> x.1.1.2 ≠ y.1.1.2 -> decide (x.1.1.2 < y.1.1.2) = decide (Cnt.klt x.1 y.1) from fun hq hq2 => by
  rw [decide_eq_decide];unfold Cnt.klt Mom.lt;constructor
  . intro h; exact .inl (.inr ⟨hq, h⟩)
  rintro ((h | h) | h)
  . omega
  . exact h.2
  exact absurd (by rw [h.1]) hq2)
 obtain ⟨⟨⟨x1, x2⟩, x3, x4⟩, x5⟩ := x;obtain ⟨⟨⟨y1, y2⟩, y3, y4⟩, y5⟩ := y;dsimp only at *;obtain ⟨w2, hw2, hx, c0, c1, c2, c3, c4, d0, d1, d2, d3, d4⟩ := box5 w 38 (.int .i64 x1) (.int .i64 x2) (.int .i64 x3) (.int .i64 x4) (.int .i64 x5) (.int .i64 y1) (.int .i64 y2) (.int .i64 y3) (.int .i64 y4) (.int .i64 y5);have HX := hid hx.ext;have HW2 := hid hw2;clear hx hw2
 by_cases h1 : x1 = y1
 . subst h1
   by_cases h2 : x2 = y2
   . subst h2
     have HR := hid (HK.o _ rfl rfl);have HC := hid (fun w => a4H (x3, x4) (y3, y4) w)
     generalize Mom.cmp (x3, x4) (y3, y4) = z at *;generalize decide (Cnt.klt ((x1, x2), x3, x4) ((x1, x2), y3, y4)) = r at *;have e1 : (x1 != x1) = false := by simp
     have e2 : (x2 != x2) = false := by simp
     clear HK HK2 HK3
     go_enter Tryz.func64, Tryz.ntmps64
     go_upto_region 1 with fail
     rw [<- HW2.o]
     go_wp2_with fail
     refine (HC.o _).mono ?_;rintro e w3 ⟨rfl, he3⟩
     go_wp2
     go_ret
     rw [<- HR.o];exact ⟨rfl, HX.o.trans he3⟩
   have HR := hid (HK3.o rfl h2);have e1 : (x1 != x1) = false := by simp
   have e2 : (x2 != y2) = true := by simpa using h2
   generalize decide (Cnt.klt ((x1, x2), x3, x4) ((x1, y2), y3, y4)) = r at *;clear HK HK2 HK3 h2
   go_enter Tryz.func64, Tryz.ntmps64
   go_upto_region 1 with fail
   rw [<- HW2.o]
   go_wp2
   go_ret
   rw [<- HR.o];exact ⟨rfl, HX.o⟩
 have HR := hid (HK2.o h1);have e1 : (x1 != y1) = true := by simpa using h1
 generalize decide (Cnt.klt ((x1, x2), x3, x4) ((y1, y2), y3, y4)) = r at *;clear HK HK2 HK3 h1
 go_enter Tryz.func64, Tryz.ntmps64
 go_upto_region 1 with fail
 rw [<- HW2.o]
 go_wp2
 go_ret
 rw [<- HR.o];exact ⟨rfl, HX.o⟩
end Go.Proofs.YtdkejfjcchlnpaaGreat.Ct
