/-
  PlRefW2, packed: what the claim needs of them.
-/
import Derived.Test.YtdkejfjcchlnpaaGreatFt41
set_option maxHeartbeats 40000000
open Go.Lib (hid)
set_option linter.unusedSimpArgs false
set_option linter.unusedVariables false
set_option maxRecDepth 100000
namespace Go.Proofs.YtdkejfjcchlnpaaGreat
open Go.RowKit Go.Ox Go.Ox.Gr Mo
attribute [local irreducible] RE OE a00
theorem a0U (d : Nat) (v : Value) (g : G) (p q : Pl.P2) (w : World) (hv : a00 d w v g.1) (hok : gOk g = true) (hn : (gPl g).length <= 20) (hp : p ∈ gPl g) :
 Calls Tryz.prog 55 #[gAg v g.2, plV p, plV q] w fun e w' => e = .returned (.tuple #[wV ((Pl.a9Z g p q).getD (false, 0)), .bool (Pl.a9Z g p q).isSome]) ∧ Ext w w' := by
 have hpl : gPl g = a0a g.1 := by unfold gPl; rw [if_pos hok]
 have HPL := hid (fun W (h : Ext w W) => a0X d v g.1 g.2 W (hv.ext h) (a2C (l := g.1) (out := g.2) hok).1 (a2C (l := g.1) (out := g.2) hok).2)
 rw [<- hpl] at HPL;have HAR := hid (fun W (h : Ext w W) => b3z d v g W (hv.ext h) hok hn)
 have HAT := hid (fun u j W (h : RE W u (gPl g)) => b7j u (gPl g) (Prod.fst j) (Prod.snd j) W h (by omega))
 have HAL := hid (Pl.a8e hn);have HFT := hid (fun a (ha : a ∈ Pl.a1J g) => (show a.1.1 ∈ gPl g ∧ a.1.2 ∈ gPl g ∧ 0 <= a.2.2 ∧ a.2.2 <= 1 from ⟨(Pl.b4J g).fr a ha, (Pl.b4J g).tt a ha, (Pl.b4J g).lo a ha, (Pl.b4J g).hi a ha⟩))
 have HWM := hid (show Pl.a9Z g p = Pl.iter (Pl.a1J g) p (2 * (gPl g).length + 1) (Pl.M0 p) from rfl);have HND := hid (Pl.b3A g);have HI0 := hid (fun k => Pl.a4U (Pl.b4J g) hn k _ (Pl.b5D (cs := Pl.a1J g) hp))
 have HIS := hid (fun M (h : Pl.Inv (Pl.a1J g) (gPl g) p M) a (ha : a ∈ Pl.a1J g) => Pl.b5E (Pl.b4J g) hn h ha)
 have HN := hid (show (gPl g).length <= 20 ∧ 1 <= (gPl g).length from ⟨hn, List.length_pos_of_mem hp⟩);have HP := hid hp
 have HQI := hid (fun (h : q ∉ gPl g) => (show Pl.a9Z g p q = none from by
  cases hw : Pl.a9Z g p q with
  | none => rfl
  | some x => exact absurd ((Pl.b4K hn hp).bnd q x hw).1 h))
 have HQP := hid (fun (h : q ∈ gPl g) => Pl.a3t h)
 have HQN := hid (fun (h : q ∉ gPl g) => a2V (i := 0) h)
 obtain ⟨l, out⟩ := g;simp only at HPL HAR hv;generalize Pl.a9Z (l, out) p = WM at *;generalize Pl.a1J (l, out) = AL at *;generalize gPl (l, out) = PL at *;obtain ⟨A, c, rfl⟩ := hv.form;obtain ⟨p1, p2⟩ := p;obtain ⟨q1, q2⟩ := q;have h0 : BW4 ((((w.alloc (gCs (.slice A l.length c) out)).alloc (.cells #[.int .i64 p1, .int .i64 p2] 27)).alloc (.cells #[.int .i64 q1, .int .i64 q2] 27)).alloc (.cells #[.bool false, .int .i64 0] 107)) w.heap.size (.slice A l.length c) out p1 p2 q1 q2 ∧ Ext w ((((w.alloc (gCs (.slice A l.length c) out)).alloc (.cells #[.int .i64 p1, .int .i64 p2] 27)).alloc (.cells #[.int .i64 q1, .int .i64 q2] 27)).alloc (.cells #[.bool false, .int .i64 0] 107)) := BW4.new w (.slice A l.length c) out p1 p2 q1 q2;have HB0 := hid h0.1;have HX0 := hid h0.2;clear h0 hv hp hok hn hpl
 go_enter Tryz.func55, Tryz.ntmps55
 go_upto_region 1 with fail
 obtain ⟨n, hn⟩ : ∃ n, n = w.heap.size := ⟨_, rfl⟩;rw [<- hn] at HB0 ⊢;have HPS := hid (show w.heap.size <= n + 1 + 1 + 1 from by omega)
 clear hn;generalize (((w.alloc (gCs (.slice A l.length c) out)).alloc (.cells #[.int .i64 p1, .int .i64 p2] 27)).alloc (.cells #[.int .i64 q1, .int .i64 q2] 27)).alloc (.cells #[.bool false, .int .i64 0] 107) = w0 at *;obtain ⟨c0, c1, c2, c3, c4, c5⟩ := HB0.o.cells
 go_wp2_with fail
 refine (HPL.o w0 HX0.o).mono ?_;rintro e w1 ⟨uv, rfl, huv, he1⟩;obtain ⟨AV, cV, rfl⟩ := huv.re.form;have HX1 := hid (HX0.o.trans he1);have HB1 := hid (HB0.o.ext he1);have HV1 := hid huv.re;clear huv he1 c0 c1 c2 c3 c4 c5 HX0 HB0 HPL;obtain ⟨c0, c1, c2, c3, c4, c5⟩ := HB1.o.cells
 go_wp2_with fail
 refine (HAR.o w1 HX1.o).mono ?_;rintro e w2 ⟨ua, rfl, hua, he2⟩;obtain ⟨AA, cA, rfl⟩ := hua.form;have HX2 := hid (HX1.o.trans he2);have HB2 := hid (HB1.o.ext he2);have HV2 := hid (HV1.o.ext he2);have HA2 := hid hua;clear hua he2 c0 c1 c2 c3 c4 c5 HX1 HB1 HV1 HAR;have hn20 : PL.length <= 20 := HN.o.1
 go_upto_region 4 with (at_make; refine a4Y rfl elemBo _ (.tmp 25) (.tmp 25) rfl PL.length rfl rfl (by omega) (by unfold maxLen; omega) ?_; intro v3 w3 hv3 ho3 he3; subst hv3)
 obtain ⟨cu1, hcu1, hcs1, hcl1⟩ := b5K ho3
 go_upto_region 5 with (at_make; refine a4Y rfl elemWy _ (.tmp 28) (.tmp 28) rfl PL.length rfl rfl (by omega) (by unfold maxLen; omega) ?_; intro v4 w4 hv4 ho4 he4; subst hv4)
 obtain ⟨cu2, hcu2, hcs2, hcl2⟩ := b5K ho4;have HS0 := hid (b7m (p := (p1, p2)) (hcu1.ext he4) hcs1 hcl1 hcu2 hcs2 hcl2);have HBH := hid (show w2.heap.size <= w2.heap.size from Nat.le_refl _);have HX4 := hid (he3.trans he4);have hlt3 : w2.heap.size < w3.heap.size := hcu1.lt;obtain ⟨bh, hbh⟩ : ∃ b, b = w2.heap.size := ⟨_, rfl⟩;obtain ⟨bw, hbw⟩ : ∃ b, b = w3.heap.size := ⟨_, rfl⟩;rw [<- hbh, <- hbw] at HS0 ⊢;have hne : bh ≠ bw := by omega
 have HNE := hid hne;have HLO := hid (show w2.heap.size <= bh ∧ w2.heap.size <= bw from by omega)
 clear hcu1 hcs1 hcl1 hcu2 hcs2 hcl2 ho3 ho4 he3 he4 hlt3 hbh hbw hne HBH
 go_wp2
 go_loopw [12] (fun iv wr => ∃ i : Nat, i <= PL.length ∧ iv = .int .i64 (i : Int) ∧ WS2 wr bh bw PL (mk0 PL (p1, p2) i) ∧ Ext w2 wr) (fun iv _ => PL.length - (intOf iv).toNat)
 case atStart => exact ⟨0, Nat.zero_le _, rfl, HS0.o, HX4.o⟩
 case round =>
 obtain ⟨i, hi, rfl, hs, hx⟩ := hrel;rename World => wr
 have HS := hid hs;have HX := hid hx;clear hs;have hi20 : i <= 20 := by omega
 by_cases hlt : i < PL.length
 . have r1 : (i : Int) < (PL.length : Int) := by omega
   have r0 : 0 <= (i : Int) := by omega
   have HLT := hid hlt;obtain ⟨bV, oV, hAV, y0, y1⟩ := rp2 (HV2.o.ext hx) hlt;obtain ⟨x, hxe⟩ : ∃ x, PL[i] = x := ⟨_, rfl⟩;obtain ⟨s0, -, -, f0, -, -⟩ := HS.o.get hlt hxe;have HMK := hid (mk0_s (p := (p1, p2)) HND.o hlt hxe);have HXE := hid hxe;replace y0 : wr.cell? ⟨bV, oV + i * 2, none⟩ = some (.int .i64 x.1) := by rw [<- hxe]; exact y0
   replace y1 : wr.cell? ⟨bV, oV + i * 2 + 1, none⟩ = some (.int .i64 x.2) := by rw [<- hxe]; exact y1
   obtain ⟨x1, x2⟩ := x;simp only at y0 y1;subst hAV;have a2 : wr.cell? ⟨n + 1, 0, none⟩ = some (.int .i64 p1) := (HB2.o.ext hx).p.cell 0;have a3 : wr.cell? ⟨n + 1, 1, none⟩ = some (.int .i64 p2) := (HB2.o.ext hx).p.cell 1;have heq := a6Y x1 x2 p1 p2;obtain ⟨dd, hdd⟩ : ∃ b, decide ((x1, x2) = (p1, p2)) = b := ⟨_, rfl⟩;rw [hdd] at heq HMK;clear hx hlt hi hxe hdd;generalize (mk0 PL (p1, p2) i (x1, x2)).isSome = hs0 at *
   go_wp2
   refine a0c 9 [] [] Ext Ext (fun _ => True) (by kernel_rfl) (by kernel_rfl) (by kernel_rfl) (by kernel_rfl) (by kernel_rfl) (by kernel_rfl) (by kernel_rfl) (by rfl) (by rfl) (by kernel_rfl) (by kernel_rfl) (by kernel_rfl) (fun _ _ _ x y => x.trans y) Ext.refl (fun _ _ x => x) (Ext.refl _).drew (fun _ _ x _ => x) trivial ?_
   refine ya ?_;refine yl2 y0 y1 ?_;refine yl2 a2 a3 ?_;refine a0j rfl rfl (a03 rfl) Ext.refl rfl ?_; apply Exists.intro; refine ⟨?_, ?_⟩
   . intro a w' hR h1 h2
     have e1 : _ = _ := h1;have e2 : _ = _ := h2;have hq9 := heq w';go_simp;rfl
   refine ya ?_;refine a01 ?_;intro wz hxz hSz
   iterate 9 (rintro _ rfl)
   dsimp only [a0y];go_simp;have hxz : Ext wr wz := hxz;have HSZ := hid (HS.o.ext hxz);have HXZ := hid (HX.o.trans hxz);obtain ⟨s0, -, -, f0, -, -⟩ := HSZ.o.get HLT.o HXE.o;clear hxz hSz y0 y1 a2 a3 heq;simp only [a0n, List.drop_succ_cons, List.drop_zero]
   go_wp2
   exact ⟨⟨i + 1, HLT.o, by go_num, HSZ.o.mark HNE.o HND.o HLT.o HXE.o HMK.o.1 HMK.o.2.1 HMK.o.2.2, Ext.put HXZ.o HLO.o.1 _⟩, by have := HLT.o; simp [intOf]; omega⟩
 obtain rfl : i = PL.length := by omega
 have r1 : ¬ (PL.length : Int) < (PL.length : Int) := by omega
 rw [b7n HP.o] at HS;have HX5 := hid hx;clear hx hlt hi hi20 HX4 HS0;rename World => w5
 have u1 : IntKind.i64.wrap (2 * (PL.length : Int)) = 2 * (PL.length : Int) := IntWalk.i64_in _ (by omega)
 go_wp2
 go_loopw [13] (fun pv wr => ∃ k : Nat, k <= 2 * PL.length + 1 ∧ pv = .int .i64 (k : Int) ∧ WS2 wr bh bw PL (Pl.iter AL (p1, p2) k (Pl.M0 (p1, p2))) ∧ Ext w2 wr) (fun pv _ => 2 * PL.length + 1 - (intOf pv).toNat)
 case atStart => exact ⟨0, Nat.zero_le _, rfl, HS.o, HX5.o⟩
 case round =>
 obtain ⟨ps, hps, rfl, hs, hx⟩ := hrel;rename World => wr
 have HSP := hid hs;have HXP := hid hx;have HIP := hid (HI0.o ps);have HPS2 := hid (show Pl.iter AL (p1, p2) (ps + 1) (Pl.M0 (p1, p2)) = AL.foldl (Pl.rx (p1, p2)) (Pl.iter AL (p1, p2) ps (Pl.M0 (p1, p2))) from rfl);generalize hMp : Pl.iter AL (p1, p2) ps (Pl.M0 (p1, p2)) = Mp at *;have hps50 : ps <= 50 := by omega
 clear hs hx
 by_cases hpl : ps <= 2 * PL.length
 . have r1 : (ps : Int) <= 2 * (PL.length : Int) := by omega
   have HPLE := hid hpl;clear hpl hps hMp
   go_wp2
   go_loopw [14] (fun kv wq => ∃ k : Nat, k <= AL.length ∧ kv = .int .i64 (k : Int) ∧ WS2 wq bh bw PL ((AL.take k).foldl (Pl.rx (p1, p2)) Mp) ∧ Pl.Inv AL PL (p1, p2) ((AL.take k).foldl (Pl.rx (p1, p2)) Mp) ∧ Ext w2 wq) (fun kv _ => AL.length - (intOf kv).toNat)
   case atStart => exact ⟨0, Nat.zero_le _, rfl, HSP.o, HIP.o, HXP.o⟩
   case round =>
   obtain ⟨k, hk, rfl, hs, hin, hxq⟩ := hrel;rename World => wq
   have HAB := HAL.o;have hk9 : (k : Int) <= 400 := by omega
   have HXQ := hid hxq
   by_cases hkl : k < AL.length
   . have r2 : (k : Int) < (AL.length : Int) := by omega
     have r20 : 0 <= (k : Int) := by omega
     have HKL := hid hkl;obtain ⟨M, hM⟩ : ∃ M, (AL.take k).foldl (Pl.rx (p1, p2)) Mp = M := ⟨_, rfl⟩;rw [hM] at hs hin;have HMS := hid (show (AL.take (k + 1)).foldl (Pl.rx (p1, p2)) Mp = Pl.rx (p1, p2) M AL[k] from by rw [List.take_succ_eq_append_getElem hkl, List.foldl_append, hM]; rfl)
     have HINV := hid hin;have HSQ := hid hs;have HINV2 := hid (HIS.o M hin AL[k] (List.getElem_mem hkl));have HFA := hid (HFT.o AL[k] (List.getElem_mem hkl));obtain ⟨bA, oA, hAA, hcA⟩ := RE.at_ (HA2.o.ext hxq) hkl;generalize AL[k] = y at *;obtain ⟨⟨⟨f1, f2⟩, t1, t2⟩, sw, ad⟩ := y;have k0 : wq.cell? ⟨bA, oA + k * 6, none⟩ = some (.int .i64 f1) := hcA 0 _ rfl;have k1 : wq.cell? ⟨bA, oA + k * 6 + 1, none⟩ = some (.int .i64 f2) := hcA 1 _ rfl;have k2 : wq.cell? ⟨bA, oA + k * 6 + 2, none⟩ = some (.int .i64 t1) := hcA 2 _ rfl;have k3 : wq.cell? ⟨bA, oA + k * 6 + 3, none⟩ = some (.int .i64 t2) := hcA 3 _ rfl;have k4 : wq.cell? ⟨bA, oA + k * 6 + 4, none⟩ = some (.bool sw) := hcA 4 _ rfl;have k5 : wq.cell? ⟨bA, oA + k * 6 + 5, none⟩ = some (.int .i64 ad) := hcA 5 _ rfl;subst hAA;simp only at HFA;obtain ⟨jf, hjf, hpf, hef⟩ := Pl.a3t HFA.o.1;obtain ⟨jt, hjt, hpt, het⟩ := Pl.a3t HFA.o.2.1;have HCF := hid (fun W (hW : Ext wq W) => HAT.o (.slice AV PL.length cV) (f1, f2) W ((HV2.o.ext hxq).ext hW))
     have HCT := hid (fun W (hW : Ext wq W) => HAT.o (.slice AV PL.length cV) (t1, t2) W ((HV2.o.ext hxq).ext hW))
     rw [hpf] at HCF;rw [hpt] at HCT;have HJF := hid hjf;have HJT := hid hjt;have HEF := hid hef;have HET := hid het;clear hcA hs hin hM hkl hk hxq hpf hpt hef het
     go_wp2
     refine yx ?_;refine ya ?_;refine yl2 k0 k1 ?_;refine yc2 (.int .i64 (jf : Int)) (fun w' hR => HCF.o w' hR) ?_
     refine ya ?_;refine yl2 k2 k3 ?_;refine yc2 (.int .i64 (jt : Int)) (fun w' hR => HCT.o w' hR) ?_
     refine ya ?_;refine a01 ?_;intro w6 hx6 hS6
     iterate 16 (rintro _ rfl)
     dsimp only [a0y];go_simp;have hx6 : Ext wq w6 := hx6;have k0 := hx6.cell k0;have k1 := hx6.cell k1;have k2 := hx6.cell k2;have k3 := hx6.cell k3;have k4 := hx6.cell k4;have k5 := hx6.cell k5;have HS6 := hid (HSQ.o.ext hx6);have HX6 := hid (HXQ.o.trans hx6);clear hx6 hS6 HCF HCT HSQ HXQ;have jf1 : (jf : Int) < (PL.length : Int) := by have := HJF.o; omega
     have jf0 : 0 <= (jf : Int) := by omega
     have jt1 : (jt : Int) < (PL.length : Int) := by have := HJT.o; omega
     have jt0 : 0 <= (jt : Int) := by omega
     obtain ⟨s0, s1, s2, -, -, -⟩ := HS6.o.get HJF.o HEF.o
     cases hMf : M (f1, f2) with
     | none =>
      rw [hMf] at s0 s1 s2;have HR := hid (show (AL.take (k + 1)).foldl (Pl.rx (p1, p2)) Mp = M from by rw [HMS.o]; unfold Pl.rx; rw [hMf])
      simp only [Option.isSome_none, Option.getD_none] at s0 s1 s2;clear hMf HINV2
      go_wp2
      exact ⟨⟨k + 1, HKL.o, by go_num, by rw [HR.o]; exact HS6.o, by rw [HR.o]; exact HINV.o, HX6.o⟩, by have := HKL.o; simp [intOf]; omega⟩
     | some x =>
     rw [hMf] at s0 s1 s2;simp only [Option.isSome_some, Option.getD_some] at s0 s1 s2;have HXB := hid (HINV.o.bnd _ _ hMf);have HCN := hid (Pl.a9T PL M);have HTH := hid (fun W => b2R x (sw, ad) W)
     rw [b00 (x := x) (a := (sw, ad)) (by have h1 := HXB.o; have h2 := HCN.o; omega) ⟨HFA.o.2.2.1, HFA.o.2.2.2⟩] at HTH
     have HRX := hid (show Pl.rx (p1, p2) M ((((f1, f2), (t1, t2)), (sw, ad)) : Pl.Ar) = if Pl.better M (p1, p2) (t1, t2) (Pl.thn x (sw, ad)) then Pl.upd M (t1, t2) (Pl.thn x (sw, ad)) else M from by unfold Pl.rx; simp only; rw [hMf])
     generalize hnw : Pl.thn x (sw, ad) = nw at *;obtain ⟨n1, n2⟩ := nw;obtain ⟨x1, x2⟩ := x;clear hMf hnw;simp only at s1 s2 HTH;have g0 : w6.cell? ⟨n, 0, none⟩ = some (.slice A l.length c) := (HB2.o.ext HX6.o).g.cell 0;have hbw := HS6.o.lt.2;have hbh := HS6.o.lt.1;have HBL := hid (⟨hbh, hbw⟩ : bh < w6.heap.size ∧ bw < w6.heap.size);have hbA := World.block_lt_of_cell? w6 _ k0;simp only at hbA;have hbw1 : ¬ bw = w6.heap.size := by omega
     have hbA1 : ¬ bA = w6.heap.size := by omega
     clear g0
     go_upto_region 17 with fail
     go_cut [17] (fun s17 wx => ∃ n7, s17 = .pointer (some ⟨n7, 0, none⟩) ∧ Blk wx n7 107 #[.bool n1, .int .i64 n2] ∧ Ext w6 wx ∧ bh < n7 ∧ bw < n7)
     case first =>
      clear HMS HINV HINV2 HFA HAT HAL HFT HWM HND HI0 HIS HP HQI HQP HQN HB2 HX2 HV2 HA2 HNE HLO HPS2 HIP HSP HXP HS6 HX6 HRX HXB HCN HKL HJF HJT HEF HET HX5 HS
      go_region_with (go_at_call 88; refine (HTH.o _).mono ?_; rintro e w8 ⟨rfl, he8⟩; try (have HBN := hid (((Blk.new w6 107 #[.bool false, .int .i64 0]).ext (Ext.refl _).drew).ext he8); have b0 := HBN.o.cell 0; have b1 := HBN.o.cell 1; have f0 := HBN.o.frozen 0; have f1 := HBN.o.frozen 1; have t0 := fun u => (HBN.o.a0q 0 u).frozen 1; have t1 := fun u => (HBN.o.a0q 0 u).cell 1))
      all_goals go_wp2
      all_goals go_meet
      all_goals first
       | exact ⟨_, rfl, Blk.b5c HBN.o (.bool n1) (.int .i64 n2), (a5G HBN.o (((Ext.refl w6).alloc _).drew.trans he8) (Nat.le_refl _) (.bool n1) (.int .i64 n2)).2.2, HBL.o.1, HBL.o.2⟩
       | exact ⟨_, rfl, Blk.new w8 107 #[.bool n1, .int .i64 n2], ((Ext.refl w6).drew.trans he8).alloc _, Nat.lt_of_lt_of_le HBL.o.1 ((Ext.refl w6).drew.trans he8).size, Nat.lt_of_lt_of_le HBL.o.2 ((Ext.refl w6).drew.trans he8).size⟩
     case rest =>
     obtain ⟨n7, rfl, hb7, hx7, hn71, hn72⟩ := hcut;have HN7 := hid (⟨hn71, hn72⟩ : bh < n7 ∧ bw < n7);clear hn71 hn72;rename World => w7
     have d0 := hb7.c0;have d1 := hb7.c1;have HS7 := hid (HS6.o.ext hx7);have HX7 := hid (HX6.o.trans hx7);have HB7 := hid (HB2.o.ext HX7.o);have HV7 := hid (HV2.o.ext HX7.o);clear hb7 hx7 k0 k1 k2 k3 k4 k5 s0 s1 s2 hbw hbh hbA hbw1 hbA1 HTH HS6 HX6 HBL;obtain ⟨s0, s1, s2, f0, f1, f2⟩ := HS7.o.get HJT.o HET.o;obtain ⟨bV, oV, hAV, y0, y1⟩ := rp2 HV7.o HJT.o;replace y0 : w7.cell? ⟨bV, oV + jt * 2, none⟩ = some (.int .i64 t1) := by have h9 : PL[jt]'HJT.o = (t1, t2) := HET.o; rw [show t1 = (t1, t2).1 from rfl, <- h9]; exact y0
     replace y1 : w7.cell? ⟨bV, oV + jt * 2 + 1, none⟩ = some (.int .i64 t2) := by have h9 : PL[jt]'HJT.o = (t1, t2) := HET.o; rw [show t2 = (t1, t2).2 from rfl, <- h9]; exact y1
     subst hAV;have a2 : w7.cell? ⟨n + 1, 0, none⟩ = some (.int .i64 p1) := HB7.o.p.cell 0;have a3 : w7.cell? ⟨n + 1, 1, none⟩ = some (.int .i64 p2) := HB7.o.p.cell 1;obtain ⟨bt, hbt⟩ : ∃ b, Pl.bet M (p1, p2) (t1, t2) (n1, n2) = b := ⟨_, rfl⟩;have HBT := hid hbt
     go_upto_region 18 with fail
     go_cut [134] (fun s134 wx => s134 = .bool bt ∧ Ext w7 wx)
     case first =>
      have hnq := nePlD t1 t2 p1 p2;have HBE := hid (show bt = (!decide ((t1, t2) = (p1, p2)) && (!(M (t1, t2)).isSome || (decide (n2 < ((M (t1, t2)).getD (false, 0)).2) || (decide (n2 = ((M (t1, t2)).getD (false, 0)).2) && (n1 && !((M (t1, t2)).getD (false, 0)).1))))) from hbt.symm.trans (bet_eq M _ _ _));clear hbt HBT HMS HINV HINV2 HFA HAT HAL HFT HWM HND HI0 HIS HP HQI HQP HQN HB2 HX2 HV2 HA2 HNE HLO HPS2 HIP HSP HXP HS7 HX7 HRX HXB HCN HKL HJF HJT HEF HET HX5 HS HB7 HV7 f0 f1 f2;generalize (M (t1, t2)).isSome = hs9 at *;generalize (M (t1, t2)).getD (false, 0) = g9 at *;obtain ⟨g1, g2⟩ := g9;simp only at s1 s2 HBE;generalize hd9 : decide ((t1, t2) = (p1, p2)) = d9 at *;clear hd9
      cases d9 with
      | true =>
       have HRB := hid (show bt = false from by rw [HBE.o]; rfl)
       clear HBE
       go_region
       all_goals go_wp2
       all_goals go_meet
       all_goals exact ⟨by (rw [HRB.o]; try rfl), by first | exact Ext.refl _ | exact (Ext.refl _).drew⟩
      | false =>
      cases hs9 with
      | false =>
       have HRB := hid (show bt = true from by rw [HBE.o]; rfl)
       clear HBE
       go_region
       all_goals go_wp2
       all_goals go_meet
       all_goals exact ⟨by (rw [HRB.o]; try rfl), by first | exact Ext.refl _ | exact (Ext.refl _).drew⟩
      | true =>
      by_cases hl9 : n2 < g2
      . have HRB := hid (show bt = true from by rw [HBE.o, decide_eq_true hl9]; rfl)
        clear HBE
        go_region
        all_goals go_wp2
        all_goals go_meet
        all_goals exact ⟨by (rw [HRB.o]; try rfl), by first | exact Ext.refl _ | exact (Ext.refl _).drew⟩
      by_cases he9 : n2 = g2
      . subst he9
        have hee : ((n2 : Int) == n2) = true := by simp
        have HRB := hid (show bt = (n1 && !g1) from by rw [HBE.o, decide_eq_false hl9]; simp)
        clear HBE
        cases n1 with
        | false =>
         go_region
         all_goals go_wp2
         all_goals go_meet
         all_goals exact ⟨by (rw [HRB.o]; try rfl), by first | exact Ext.refl _ | exact (Ext.refl _).drew⟩
        | true =>
        go_region
        all_goals go_wp2
        all_goals go_meet
        all_goals exact ⟨by (rw [HRB.o]; try simp), by first | exact Ext.refl _ | exact (Ext.refl _).drew⟩
      have hee : ((n2 : Int) == g2) = false := by simpa using he9
      have HRB := hid (show bt = false from by rw [HBE.o, decide_eq_false hl9, decide_eq_false he9]; rfl)
      clear HBE he9
      go_region
      all_goals go_wp2
      all_goals go_meet
      all_goals exact ⟨by (rw [HRB.o]; try rfl), by first | exact Ext.refl _ | exact (Ext.refl _).drew⟩
     case rest =>
     obtain ⟨rfl, hx9⟩ := hcut;rename World => w9
     have HS9 := hid (HS7.o.ext hx9);have HX9 := hid (HX7.o.trans hx9);have d0 := hx9.cell d0;have d1 := hx9.cell d1;have hln := World.block_lt_of_cell? w9 _ d0;clear hx9 s0 s1 s2 f0 f1 f2 y0 y1 a2 a3 hbt HB7 HV7 hln
     cases bt with
     | false =>
      have HR := hid (show (AL.take (k + 1)).foldl (Pl.rx (p1, p2)) Mp = M from by rw [HMS.o, HRX.o, if_neg (by have := HBT.o; unfold Pl.bet at this; simpa using this)])
      go_wp2
      exact ⟨⟨k + 1, HKL.o, by go_num, by rw [HR.o]; exact HS9.o, by rw [HR.o]; exact HINV.o, HX9.o⟩, by have := HKL.o; simp [intOf]; omega⟩
     | true =>
     have HR := hid (show (AL.take (k + 1)).foldl (Pl.rx (p1, p2)) Mp = Pl.upd M (t1, t2) (n1, n2) from by rw [HMS.o, HRX.o, if_pos (by have := HBT.o; unfold Pl.bet at this; simpa using this)])
     rw [<- HMS.o, HR.o] at HINV2;obtain ⟨s0, s1, s2, f0, f1, f2⟩ := HS9.o.get HJT.o HET.o;have g1 := HNE.o;have g2 := g1.symm;have g3 : ¬ n7 = bh := by have := HN7.o; omega
     have g4 : ¬ n7 = bw := by have := HN7.o; omega
     have g5 : ¬ bh = n7 := by omega
     have g6 : ¬ bw = n7 := by omega
     go_upto_region 19 with fail
     go_region
     all_goals go_wp2
     all_goals first
      | exact ⟨⟨k + 1, HKL.o, by go_num, by rw [HR.o]; exact (HS9.o.put HNE.o HND.o HJT.o HET.o (n1, n2)).1, by rw [HR.o]; exact HINV2.o, Ext.put (Ext.put (Ext.put HX9.o HLO.o.1 _) HLO.o.2 _) HLO.o.2 _⟩, by have := HKL.o; simp [intOf]; omega⟩
      | exact ⟨⟨k + 1, HKL.o, by go_num, by rw [HR.o]; exact (HS9.o.put HNE.o HND.o HJT.o HET.o (n1, n2)).2, by rw [HR.o]; exact HINV2.o, Ext.put (Ext.put (Ext.put HX9.o HLO.o.2 _) HLO.o.2 _) HLO.o.1 _⟩, by have := HKL.o; simp [intOf]; omega⟩
      | exact ⟨⟨k + 1, HKL.o, by go_num, by rw [HR.o]; exact ((HS9.o.ext (Ext.refl _).drew).put HNE.o HND.o HJT.o HET.o (n1, n2)).1, by rw [HR.o]; exact HINV2.o, Ext.put (Ext.put (Ext.put HX9.o.drew HLO.o.1 _) HLO.o.2 _) HLO.o.2 _⟩, by have := HKL.o; simp [intOf]; omega⟩
      | exact ⟨⟨k + 1, HKL.o, by go_num, by rw [HR.o]; exact ((HS9.o.ext (Ext.refl _).drew).put HNE.o HND.o HJT.o HET.o (n1, n2)).2, by rw [HR.o]; exact HINV2.o, Ext.put (Ext.put (Ext.put HX9.o.drew HLO.o.2 _) HLO.o.2 _) HLO.o.1 _⟩, by have := HKL.o; simp [intOf]; omega⟩
   obtain rfl : k = AL.length := by omega
   have r2 : ¬ (AL.length : Int) < (AL.length : Int) := by omega
   rw [List.take_length, <- HPS2.o] at hs;have HSE := hid hs;clear hs hin hkl hk hxq
   go_wp2
   exact ⟨⟨ps + 1, by have := HPLE.o; omega, by go_num, HSE.o, HXQ.o⟩, by have := HPLE.o; simp [intOf]; omega⟩
 obtain rfl : ps = 2 * PL.length + 1 := by omega
 have r1 : ¬ (((2 * PL.length + 1 : Nat) : Int)) <= 2 * (PL.length : Int) := by omega
 rw [<- hMp, <- HWM.o] at HSP;have HB9 := hid (HB2.o.ext HXP.o);have HV9 := hid (HV2.o.ext HXP.o);have HXR := hid (HX2.o.trans HXP.o);clear hpl hps hMp HIP HPS2 hps50;rename World => wf
 have c4 : wf.cell? ⟨n + 1 + 1, 0, none⟩ = some (.int .i64 q1) := HB9.o.q.cell 0;have c5 : wf.cell? ⟨n + 1 + 1, 1, none⟩ = some (.int .i64 q2) := HB9.o.q.cell 1;obtain ⟨pp, hpp⟩ : ∃ pp, pp = 2 * PL.length + 1 := ⟨_, rfl⟩;rw [<- hpp] at r1 ⊢;clear hpp
 go_wp2_with fail
 refine (HAT.o (.slice AV PL.length cV) (q1, q2) wf HV9.o).mono ?_;rintro e wg ⟨rfl, heg⟩;have HSG := hid (HSP.o.ext heg);have HXG := hid (HXR.o.trans heg);have HRG := hid (HB9.o.ext heg).r;clear heg c4 c5 HSP HXR HB9 HV9;obtain ⟨nr, hnr⟩ : ∃ k, k = n + 1 + 1 + 1 := ⟨_, rfl⟩;rw [<- hnr] at HPS HRG ⊢;clear hnr;rename World => wz
 have s0 := HRG.o.cell 0;have s1 := HRG.o.cell 1;have f0 := HRG.o.frozen 0;have f1 := HRG.o.frozen 1;have t0 := fun u => (HRG.o.a0q 0 u).frozen 1
 have t1 := fun u => (HRG.o.a0q 0 u).cell 1
 by_cases hqm : (q1, q2) ∈ PL
 . obtain ⟨jq, hjq, hpq, heq⟩ := HQP.o hqm
   simp only;rw [hpq];have HJQ := hid hjq;obtain ⟨z0, z1, z2, -, -, -⟩ := HSG.o.get hjq heq;have jq1 : (jq : Int) < (PL.length : Int) := by omega
   have jq0 : 0 <= (jq : Int) := by omega
   have jqn : ¬ (jq : Int) < 0 := by omega
   clear hjq hpq heq hqm
   cases hW : WM (q1, q2) with
   | none =>
    rw [hW] at z0 z1 z2;simp only [Option.isSome_none, Option.getD_none] at z0 z1 z2;have HW9 := hid hW;clear hW
    go_wp2
    obtain ⟨y0, y1, hy⟩ := a5G HRG.o HXG.o HPS.o (.bool false) (.int .i64 0);generalize ((wz.setCell ⟨nr, 0, none⟩ (.bool false)).setCell ⟨nr, 1, none⟩ (.int .i64 0)) = wr9 at *;exact bodyPost_ret (v := .tuple #[.agg #[.bool false, .int .i64 0], .bool false]) (by simp [results, Tryz.results55, go_sem, y0, y1]) rfl ⟨by rw [HW9.o]; rfl, hy⟩
   | some x =>
   rw [hW] at z0 z1 z2;obtain ⟨x1, x2⟩ := x;simp only [Option.isSome_some, Option.getD_some] at z0 z1 z2;have HW9 := hid hW;clear hW
   go_wp2
   obtain ⟨y0, y1, hy⟩ := a5G HRG.o HXG.o HPS.o (.bool x1) (.int .i64 x2);generalize ((wz.setCell ⟨nr, 0, none⟩ (.bool x1)).setCell ⟨nr, 1, none⟩ (.int .i64 x2)) = wr9 at *;exact bodyPost_ret (v := .tuple #[.agg #[.bool x1, .int .i64 x2], .bool true]) (by simp [results, Tryz.results55, go_sem, y0, y1]) rfl ⟨by rw [HW9.o]; rfl, hy⟩
 simp only;rw [HQN.o hqm];have HWN := hid (HQI.o hqm);clear hqm
 go_wp2
 obtain ⟨y0, y1, hy⟩ := a5G HRG.o HXG.o HPS.o (.bool false) (.int .i64 0);generalize ((wz.setCell ⟨nr, 0, none⟩ (.bool false)).setCell ⟨nr, 1, none⟩ (.int .i64 0)) = wr9 at *;exact bodyPost_ret (v := .tuple #[.agg #[.bool false, .int .i64 0], .bool false]) (by simp [results, Tryz.results55, go_sem, y0, y1]) rfl ⟨by rw [HWN.o]; rfl, hy⟩
end Go.Proofs.YtdkejfjcchlnpaaGreat
