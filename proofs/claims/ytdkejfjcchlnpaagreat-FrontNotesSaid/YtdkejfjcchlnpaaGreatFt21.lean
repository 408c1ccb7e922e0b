/-
  GrUsersR2, packed: what the claim needs of them.
-/
import Derived.Test.YtdkejfjcchlnpaaGreatFt20
set_option maxHeartbeats 40000000
open Go.Lib (hid)
set_option linter.unusedSimpArgs false
set_option linter.unusedVariables false
set_option maxRecDepth 100000
namespace Go.Proofs.YtdkejfjcchlnpaaGreat
open Go.RowKit Go.Ox Go.Ox.Gr
attribute [local irreducible] RE OE a00
theorem b27 (d : Nat) (v : Value) (l : List Nd) (out pi pj : Int) (w : World) (hv : a00 d w v l) (hk : Lk l) (hj : 0 <= pj) :
 Calls Tryz.prog 153 #[gAg v out, plV (pi, pj)] w fun e w' => ∃ u, e = .returned u ∧ RE w' u (ru false pj l) ∧ Ext w w' := by
 obtain ⟨A, c, rfl⟩ := hv.form;have HX0 := hid (((Ext.refl w).alloc (gCs (.slice A l.length c) out)).alloc (a2x pi pj));have HG0 := hid ((Blk.new w 24 #[.slice A l.length c, .int .i64 out]).ext ((Ext.refl _).alloc (a2x pi pj)));have HP0 := hid (Blk.new (w.alloc (gCs (.slice A l.length c) out)) 27 #[.int .i64 pi, .int .i64 pj]);have HPL := hid (fun w h => a0X d (.slice A l.length c) l out w h hk.1 (fun n hn => (hk.2 n hn).1))
 have HLN := hid (show (a0a l).length <= 10100 by have := a16 l l.length (fun n hn => (hk.2 n hn).1) hk.1; rwa [List.take_length] at this)
 have HND := hid (fun (q : Pl) (hq : q ∈ a0a l) => a5s d (.slice A l.length c) l out q hk hq)
 have HLK := hid hk;have HL0 := hid (fun (k : Nat) => a9F false pj hk ((a0a l).take k) (fun q hq => List.mem_of_mem_take hq) (by rw [List.length_take]; have := HLN.o; omega))
 have HL1 := hid (fun (k : Nat) => a9G false pj l ((a0a l).take k) (by rw [List.length_take]; have := HLN.o; omega))
 have HV := hid (hv.ext HX0.o);have HJ := hid hj;clear hv hk
 go_enter Tryz.func153, Tryz.ntmps153
 go_upto_region 1 with fail
 obtain ⟨p, hp⟩ : ∃ p, p = w.heap.size := ⟨_, rfl⟩;have hq : (w.alloc (gCs (.slice A l.length c) out)).heap.size = p + 1 := by rw [hp]; simp
 rw [hq] at HP0;rw [<- hp] at HG0 ⊢;clear hp hq;generalize (w.alloc (gCs (.slice A l.length c) out)).alloc (a2x pi pj) = w0 at *;have g0 := HG0.o.c0;have g1 := HG0.o.c1
 go_wp2_with fail
 refine (HPL.o _ HV.o).mono ?_;rintro e w1 ⟨up, rfl, hpl, he1⟩;have HS1 := hid hpl.re;obtain ⟨AP, cP, rfl⟩ := hpl.re.form;have HX1 := hid (HX0.o.trans he1);have HG1 := hid (HG0.o.ext he1);have HP1 := hid (HP0.o.ext he1);have HV1 := hid (HV.o.ext he1);clear he1 g0 g1 hpl;generalize hpp : a0a l = pl at *;have HPP := hid hpp;clear hpp
 go_wp2
 go_loopw [5, 7] (fun o pv wr => ∃ ps : Nat, ps <= 2 ∧ pv = .int .i64 (ps : Int) ∧ OE 210 w1.heap.size wr o (if ps = 0 then [] else if ps = 1 then a2y false pj l pl else a2y false pj l pl ++ a4F false pj l pl) ∧ Ext w1 wr) (fun _ pv _ => 2 - (intOf pv).toNat)
 case atStart => exact ⟨0, by omega, rfl, OE.a2g _ _ _, Ext.refl _⟩
 case round =>
 obtain ⟨ps, hps, rfl, ho, hext⟩ := hrel;rename World => wa
 obtain ⟨AO, cO, hvo⟩ := ho.re.form;have HOA := hid ho;have HEA := hid hext
 by_cases h2 : ps = 2
 . subst h2
   rw [if_neg (by decide), if_neg (by decide)] at HOA
   clear ho hvo hext
   go_wp2
   go_ret
   exact ⟨_, rfl, by unfold ru; rw [HPP.o]; exact HOA.o.re, HX1.o.trans HEA.o⟩
 by_cases h0 : ps = 0
 . subst h0
   rw [if_pos rfl] at HOA;clear ho hvo hext
   go_wp2
   go_loopw [5, 8] (fun o iv wr => ∃ k : Nat, k <= pl.length ∧ iv = .int .i64 (k : Int) ∧ OE 210 w1.heap.size wr o (([] : List Po) ++ a2y false pj l (pl.take k)) ∧ Ext w1 wr) (fun _ iv _ => pl.length - (intOf iv).toNat)
   case atStart => exact ⟨0, Nat.zero_le _, rfl, by rw [show a2y false pj l (pl.take 0) = [] from rfl, List.append_nil]; exact HOA.o, HEA.o⟩
   case round =>
   obtain ⟨k, hk, rfl, ho, hext⟩ := hrel;rename World => wr
   have HE := hid hext;have HO := hid ho;obtain ⟨AO, cO, hvo⟩ := ho.re.form;have hkb : k <= 10100 := by have := HLN.o; omega
   have g0 := (HG1.o.ext hext).c0;have g1 := (HG1.o.ext hext).c1;have s0 := (HP1.o.ext hext).c0;have s1 := (HP1.o.ext hext).c1
   by_cases hlt : k < pl.length
   . have q1 : (k : Int) < (pl.length : Int) := by omega
     have q0 : 0 <= (k : Int) := by omega
     have q1n : k < pl.length := hlt;obtain ⟨bA, oA, rfl, y0, y1⟩ := rp2 HS1.o hlt;have HYW := hid (fun (W : World) (h : Ext w1 W) => And.intro (h.cell y0) (h.cell y1))
     have y0 := hext.cell y0;have y1 := hext.cell y1;obtain ⟨nd, hnd, hcl⟩ := HND.o pl[k] (List.getElem_mem hlt)
     have HS := hid (show a2y false pj l (pl.take (k + 1)) = a2y false pj l (pl.take k) ++ a4R false pj nd pl[k] by
      have := a71 (fun q => a4R false pj ((nodeAt l q).getD default) q) pl hlt
      simp only [hnd, Option.getD_some] at this
      exact this)
     have HLK1 := hid (show (([] : List Po) ++ a2y false pj l (pl.take k)).length + (a4R false pj nd pl[k]).length <= 2100000 by
      have h1 := HL0.o (k + 1);have h2 := HL0.o pl.length;rw [List.take_length] at h2;rw [HS.o, List.length_append] at h1;rw [List.length_append]
      try simp only [List.length_nil]
      omega)
     have HIL := hid (HLK.o.at_ hnd);generalize pl[k] = x at *;have HLT := hid hlt;obtain ⟨x1, x2⟩ := x;dsimp only at y0 y1;replace HYW := hid (show ∀ W, Ext w1 W -> W.cell? ⟨bA, oA + k * 2, none⟩ = some (.int .i64 x1) ∧ W.cell? ⟨bA, oA + k * 2 + 1, none⟩ = some (.int .i64 x2) from HYW.o);obtain ⟨mop, mins, mkind, mfa, ma, mbody⟩ := nd;replace HIL := hid (show mins.length <= 100 from HIL.o);have HCL := hid (show ∀ W, Ext wr W -> Calls Tryz.prog 52 #[gAg (.slice A l.length c) out, plV (x1, x2)] W fun e w' => ∃ u b, e = .returned (.tuple #[a1e mop mkind mfa ma u b, .bool true]) ∧ RE w1 u mins ∧ a00 (d - 1) w1 b mbody ∧ Ext W w' from fun W hW => hcl w1 W HV1.o (hext.trans hW))
     replace HS := hid (show ([] : List Po) ++ a2y false pj l (pl.take (k + 1)) = (([] : List Po) ++ a2y false pj l (pl.take k)) ++ a4R false pj (.mk mop mins mkind mfa ma mbody) (x1, x2) by rw [HS.o, List.append_assoc])
     generalize ([] : List Po) ++ a2y false pj l (pl.take k) = lk at *;have hA := World.block_lt_of_cell? wr _ y0;have hP := World.block_lt_of_cell? wr _ g0;simp only at hA hP;have hA1 : ¬ bA = wr.heap.size := by omega
     have hP1 : ¬ p = wr.heap.size := by omega
     clear hcl hnd ho hext hlt hk;subst hvo
     go_upto_region 9 with fail
     go_cut [9, 10] (fun s9 s10 wx => ∃ n9 Au cu Ab cb, s9 = .pointer (some ⟨n9, 0, none⟩) ∧ s10 = .bool true ∧ Bx6 wx n9 101 (.int .i64 mop) (.slice Au mins.length cu) (.int .i64 mkind) (.int .i64 mfa) (.int .i64 ma) (.slice Ab mbody.length cb) ∧ RE w1 (.slice Au mins.length cu) mins ∧ Ext wr wx ∧ wr.heap.size <= n9)
     case first =>
      clear HO HS HLK1 HIL HLN HL0 HL1 HOA HEA HJ HPP HS1 HND
      go_region_with (go_at_call 52; refine (HCL.o _ (by repeat (first | exact Ext.refl _ | refine Ext.drew ?_ | refine Ext.alloc ?_ _))).mono ?_; rintro e w5 ⟨u5, b5, rfl, hu5, hb5, he5⟩; obtain ⟨A5, c5, rfl⟩ := hu5.form; obtain ⟨B5, d5, rfl⟩ := hb5.form; try (have HBN := hid (((Bx6.new wr 101 (.int .i64 0) (.slice none 0 0) (.int .i64 0) (.int .i64 0) (.int .i64 0) (.slice none 0 0)).ext (Ext.refl _).drew).ext he5); obtain ⟨b0, b1, b2, b3, b4, b5⟩ := HBN.o.at_; have f0 : w5.frozen? ⟨wr.heap.size, 0, none⟩ = false := HBN.o.b.frozen 0; have f1 : w5.frozen? ⟨wr.heap.size, 1, none⟩ = false := HBN.o.b.frozen 1; have f2 : w5.frozen? ⟨wr.heap.size, 2, none⟩ = false := HBN.o.b.frozen 2; have f3 : w5.frozen? ⟨wr.heap.size, 3, none⟩ = false := HBN.o.b.frozen 3; have f4 : w5.frozen? ⟨wr.heap.size, 4, none⟩ = false := HBN.o.b.frozen 4; have f5 : w5.frozen? ⟨wr.heap.size, 5, none⟩ = false := HBN.o.b.frozen 5))
      all_goals go_wp2
      all_goals go_meet
      all_goals first
       | exact ⟨_, _, _, _, _, rfl, rfl, HBN.o.fill (.int .i64 mop) (.slice A5 mins.length c5) (.int .i64 mkind) (.int .i64 mfa) (.int .i64 ma) (.slice B5 mbody.length d5), hu5, (((Ext.refl wr).alloc _).drew.trans he5).a3Z (a3G (ExtQ.refl (fun k => k = wr.heap.size) w5) (q := wr.heap.size) rfl (.int .i64 mop) (.slice A5 mins.length c5) (.int .i64 mkind) (.int .i64 mfa) (.int .i64 ma) (.slice B5 mbody.length d5)) (fun g hg => Nat.le_of_eq hg.symm), Nat.le_refl _⟩
       | exact ⟨_, _, _, _, _, rfl, rfl, Bx6.new w5 101 (.int .i64 mop) (.slice A5 mins.length c5) (.int .i64 mkind) (.int .i64 mfa) (.int .i64 ma) (.slice B5 mbody.length d5), hu5, ((Ext.refl wr).drew.trans he5).alloc _, he5.size⟩
     case rest =>
     obtain ⟨n9, Au, cu, Ab, cb, rfl, rfl, hb9, hu9, hx9, hn9⟩ := hcut;rename World => w9
     have HB9 := hid hb9;have HU9 := hid hu9;have HE9 := hid (HE.o.trans hx9);have HO9 := hid (HO.o.ext hx9);have y0 := hx9.cell y0;have y1 := hx9.cell y1;have s0 := hx9.cell s0;have s1 := hx9.cell s1;have HNE := hid (show (Value.slice AO lk.length cO).ownBlock ≠ some n9 from fun q => by have h1 := (HO.o.own.lt _ q).2; omega)
     clear hb9 hu9 hx9 hn9 g0 g1 hA hP hA1 hP1;obtain ⟨b0, b1, b2, b3, b4, b5⟩ := HB9.o.at_;have hjd : decide (pj < 0) = false := by simpa using HJ.o
     by_cases hxq : x2 < 0
     . have hxd : decide (x2 < 0) = true := by simpa using hxq
       have HSS := hid (show ([] : List Po) ++ a2y false pj l (pl.take (k + 1)) = lk by rw [HS.o, show a4R false pj (.mk mop mins mkind mfa ma mbody) (x1, x2) = [] from if_neg (by rw [hxd]; decide), List.append_nil])
       go_upto_region 12 with fail
       go_quiet (fail)
       go_wp2
       go_roundw
       case rel => exact ⟨k + 1, HLT.o, by go_num, by rw [HSS.o]; exact HO9.o.ext ((Ext.refl _).drewN _), HE9.o.drewN _⟩
       case measure => have := HLT.o; simp [intOf]; omega
     have hxd : decide (x2 < 0) = false := by simpa using hxq
     have HQ := hid (show a4R false pj (.mk mop mins mkind mfa ma mbody) (x1, x2) = nmN pj (x1, x2) mins from if_pos hxd);rw [HQ.o] at HS HLK1;clear HQ
     go_upto_region 12 with fail
     go_quiet (fail)
     clear hxd hjd hxq
     go_wp2
     clear b0 b1 b2 b3 b4 b5 y0 y1 s0 s1
     go_loopw [5, 11] (fun o iv wx => ∃ j : Nat, j <= mins.length ∧ iv = .int .i64 (j : Int) ∧ OE 210 w1.heap.size wx o (lk ++ nmN pj (x1, x2) (mins.take j)) ∧ Ext w1 wx ∧ Bx6 wx n9 101 (.int .i64 mop) (.slice Au mins.length cu) (.int .i64 mkind) (.int .i64 mfa) (.int .i64 ma) (.slice Ab mbody.length cb) ∧ o.ownBlock ≠ some n9) (fun _ iv _ => mins.length - (intOf iv).toNat)
     case atStart => exact ⟨0, Nat.zero_le _, rfl, by rw [show nmN pj (x1, x2) (mins.take 0) = [] from rfl, List.append_nil]; exact HO9.o.ext ((Ext.refl _).drewN _), HE9.o.drewN _, HB9.o.ext ((Ext.refl _).drewN _), HNE.o⟩
     case round =>
     obtain ⟨j, hj, rfl, ho, hext, hbx, hne⟩ := hrel;rename World => wx
     have HOX := hid ho;have HE1 := hid hext;have HBX := hid hbx;have HNX := hid hne;obtain ⟨AX, cX, hvx⟩ := ho.re.form;have hj100 : j <= 100 := by have := HIL.o; omega
     obtain ⟨b0, b1, b2, b3, b4, b5⟩ := hbx.at_;obtain ⟨y0, y1⟩ := HYW.o wx hext;have s0 := (HP1.o.ext hext).c0;have s1 := (HP1.o.ext hext).c1;clear hbx hne
     by_cases hjl : j < mins.length
     . have r1 : (j : Int) < (mins.length : Int) := by omega
       have r0 : 0 <= (j : Int) := by omega
       have r1n : j < mins.length := hjl;obtain ⟨bI, oI, rfl, i0⟩ := ri1 (RE.ext HU9.o hext) hjl;have HSJ := hid (b6h pj (x1, x2) mins hjl)
       have HLJ := hid (show (lk ++ nmN pj (x1, x2) (mins.take j)).length <= 2100100 by
        have h1 := HLK1.o;have h2 := a5p pj (x1, x2) (mins.take j);have h3 := HIL.o;rw [List.length_take] at h2
        rw [List.length_append]; omega)
       generalize mins[j] = xi at *;have HJL := hid hjl;have hjp := HJ.o;have hjd : decide (pj < 0) = false := by simpa using HJ.o
       have hjg : decide (pj ≥ 0) = true := by simpa using HJ.o
       clear hext hjl hj ho
       by_cases hxi : xi = pj
       . rw [if_pos hxi] at HSJ
         subst hxi;have HAS := hid (show lk ++ nmN xi (x1, x2) (mins.take (j + 1)) = (lk ++ nmN xi (x1, x2) (mins.take j)) ++ [((x1, x2), (j : Int))] by rw [HSJ.o, List.append_assoc])
         generalize lk ++ nmN xi (x1, x2) (mins.take j) = lj at *;subst hvx
         go_upto_region 16 with fail
         go_quiet (fail)
         clear hjd hjg hjp;generalize hwd : World.drewN wx _ = wd;have hdn : Ext wx wd := by rw [<- hwd]; exact (Ext.refl wx).drewN _
         clear hwd;have y0 := hdn.cell y0;have y1 := hdn.cell y1;have HL1 := hid (RE.lit wd #[.int .i64 x1, .int .i64 x2, .int .i64 (j : Int)] 210 1 [(((x1, x2), (j : Int)) : Po)] rfl (by omega) rfl)
         have HXA := hid (hdn.alloc (.cells #[.int .i64 x1, .int .i64 x2, .int .i64 (j : Int)] 210));have HOL := hid (HOX.o.ext HXA.o);have HBL := hid (HBX.o.ext HXA.o);have HXC := hid (HE1.o.trans HXA.o);clear hdn b0 b1 b2 b3 b4 b5 s0 s1 i0
         go_wp2_with (at_builtin; refine a5r rfl a7R _ _ _ rfl w1.heap.size _ _ lj [(((x1, x2), (j : Int)) : Po)] rfl HOL.o rfl HL1.o (by have := HLJ.o; simp; omega) (by have := HLJ.o; unfold maxLen; simp; omega) HXC.o.size ?_; intro v8 w8 ho8 hg8 hat8; have HHH := hid (And.intro ho8 (And.intro hg8 hat8)); clear ho8 hg8 hat8)
         have HX8 := hid (HXC.o.grown HHH.o.2.1 fun g hg => (HOL.o.own.lt g hg).1)
         have HB8 := hid (HBL.o.b5p HHH.o.2.1 HNX.o)
         have HN8 := hid (show v8.ownBlock ≠ some n9 from (by
          rcases HHH.o.2.2 with q | q
          . rw [q]; exact HNX.o
          rw [q]; intro e; injection e with e; have h9 := HBL.o.b.lt; rw [<- e] at h9; exact absurd h9 (Nat.lt_irrefl _)))
         exact ⟨⟨j + 1, HJL.o, by go_num, by rw [HAS.o]; exact HHH.o.1, HX8.o, HB8.o, HN8.o⟩, by have := HJL.o; simp [intOf]; omega⟩
       rw [if_neg hxi, List.append_nil] at HSJ;have hxb : (xi == pj) = false := by simpa using hxi
       have HAS := hid (show lk ++ nmN pj (x1, x2) (mins.take (j + 1)) = lk ++ nmN pj (x1, x2) (mins.take j) by rw [HSJ.o])
       generalize lk ++ nmN pj (x1, x2) (mins.take j) = lj at *
       go_upto_region 16 with fail
       go_quiet (fail)
       clear hjd hjg hjp hxb hxi
       go_wp2
       exact ⟨⟨j + 1, HJL.o, by go_num, by rw [HAS.o]; exact HOX.o.ext ((Ext.refl _).drewN _), HE1.o.drewN _, HBX.o.ext ((Ext.refl _).drewN _), by subst hvx; exact HNX.o⟩, by have := HJL.o; simp [intOf]; omega⟩
     obtain rfl : j = mins.length := by omega
     have r1 : ¬ (mins.length : Int) < (mins.length : Int) := by omega
     rw [List.take_length] at HOX;clear ho hext hjl hj
     go_wp2
     go_roundw
     case rel => (repeat apply Exists.intro); exact ⟨⟨k + 1, HLT.o, by go_num, by rw [HS.o]; exact HOX.o, HE1.o⟩, rfl⟩
     case measure => have := HLT.o; simp [intOf]; omega
   obtain rfl : k = pl.length := by omega
   have q1 : ¬ (pl.length : Int) < (pl.length : Int) := by omega
   rw [List.take_length, List.nil_append] at HO;clear ho hvo hext hk hlt
   go_wp2
   exact ⟨⟨1, by omega, by go_num, by rw [if_neg (by decide), if_pos rfl]; exact HO.o, HE.o⟩, by simp [intOf]⟩
 have h1 : ps = 1 := by omega
 subst h1;rw [if_neg (by decide), if_pos rfl] at HOA
 clear ho hvo hext
 go_wp2
 go_loopw [5, 8] (fun o iv wr => ∃ k : Nat, k <= pl.length ∧ iv = .int .i64 (k : Int) ∧ OE 210 w1.heap.size wr o (a2y false pj l pl ++ a4F false pj l (pl.take k)) ∧ Ext w1 wr) (fun _ iv _ => pl.length - (intOf iv).toNat)
 case atStart => exact ⟨0, Nat.zero_le _, rfl, by rw [show a4F false pj l (pl.take 0) = [] from rfl, List.append_nil]; exact HOA.o, HEA.o⟩
 case round =>
 obtain ⟨k, hk, rfl, ho, hext⟩ := hrel;rename World => wr
 have HE := hid hext;have HO := hid ho;obtain ⟨AO, cO, hvo⟩ := ho.re.form;have hkb : k <= 10100 := by have := HLN.o; omega
 have g0 := (HG1.o.ext hext).c0;have g1 := (HG1.o.ext hext).c1;have s0 := (HP1.o.ext hext).c0;have s1 := (HP1.o.ext hext).c1
 by_cases hlt : k < pl.length
 . have q1 : (k : Int) < (pl.length : Int) := by omega
   have q0 : 0 <= (k : Int) := by omega
   have q1n : k < pl.length := hlt;obtain ⟨bA, oA, rfl, y0, y1⟩ := rp2 HS1.o hlt;have HYW := hid (fun (W : World) (h : Ext w1 W) => And.intro (h.cell y0) (h.cell y1))
   have y0 := hext.cell y0;have y1 := hext.cell y1;obtain ⟨nd, hnd, hcl⟩ := HND.o pl[k] (List.getElem_mem hlt)
   have HS := hid (show a4F false pj l (pl.take (k + 1)) = a4F false pj l (pl.take k) ++ a5q false pj nd pl[k] by
    have := a71 (fun q => a5q false pj ((nodeAt l q).getD default) q) pl hlt
    simp only [hnd, Option.getD_some] at this
    exact this)
   have HLK1 := hid (show (a2y false pj l pl ++ a4F false pj l (pl.take k)).length + (a5q false pj nd pl[k]).length <= 2100000 by
    have h1 := HL1.o (k + 1);have h2 := HL0.o pl.length;rw [List.take_length] at h2;rw [HS.o, List.length_append] at h1;rw [List.length_append]
    try simp only [List.length_nil]
    omega)
   have HIL := hid (HLK.o.at_ hnd);generalize pl[k] = x at *;have HLT := hid hlt;obtain ⟨x1, x2⟩ := x;dsimp only at y0 y1;replace HYW := hid (show ∀ W, Ext w1 W -> W.cell? ⟨bA, oA + k * 2, none⟩ = some (.int .i64 x1) ∧ W.cell? ⟨bA, oA + k * 2 + 1, none⟩ = some (.int .i64 x2) from HYW.o);obtain ⟨mop, mins, mkind, mfa, ma, mbody⟩ := nd;replace HIL := hid (show mins.length <= 100 from HIL.o);have HCL := hid (show ∀ W, Ext wr W -> Calls Tryz.prog 52 #[gAg (.slice A l.length c) out, plV (x1, x2)] W fun e w' => ∃ u b, e = .returned (.tuple #[a1e mop mkind mfa ma u b, .bool true]) ∧ RE w1 u mins ∧ a00 (d - 1) w1 b mbody ∧ Ext W w' from fun W hW => hcl w1 W HV1.o (hext.trans hW))
   replace HS := hid (show a2y false pj l pl ++ a4F false pj l (pl.take (k + 1)) = (a2y false pj l pl ++ a4F false pj l (pl.take k)) ++ a5q false pj (.mk mop mins mkind mfa ma mbody) (x1, x2) by rw [HS.o, List.append_assoc])
   generalize a2y false pj l pl ++ a4F false pj l (pl.take k) = lk at *;have hA := World.block_lt_of_cell? wr _ y0;have hP := World.block_lt_of_cell? wr _ g0;simp only at hA hP;have hA1 : ¬ bA = wr.heap.size := by omega
   have hP1 : ¬ p = wr.heap.size := by omega
   clear hcl hnd ho hext hlt hk;subst hvo
   go_upto_region 9 with fail
   go_cut [9, 10] (fun s9 s10 wx => ∃ n9 Au cu Ab cb, s9 = .pointer (some ⟨n9, 0, none⟩) ∧ s10 = .bool true ∧ Bx6 wx n9 101 (.int .i64 mop) (.slice Au mins.length cu) (.int .i64 mkind) (.int .i64 mfa) (.int .i64 ma) (.slice Ab mbody.length cb) ∧ RE w1 (.slice Au mins.length cu) mins ∧ Ext wr wx ∧ wr.heap.size <= n9)
   case first =>
    clear HO HS HLK1 HIL HLN HL0 HL1 HOA HEA HJ HPP HS1 HND
    go_region_with (go_at_call 52; refine (HCL.o _ (by repeat (first | exact Ext.refl _ | refine Ext.drew ?_ | refine Ext.alloc ?_ _))).mono ?_; rintro e w5 ⟨u5, b5, rfl, hu5, hb5, he5⟩; obtain ⟨A5, c5, rfl⟩ := hu5.form; obtain ⟨B5, d5, rfl⟩ := hb5.form; try (have HBN := hid (((Bx6.new wr 101 (.int .i64 0) (.slice none 0 0) (.int .i64 0) (.int .i64 0) (.int .i64 0) (.slice none 0 0)).ext (Ext.refl _).drew).ext he5); obtain ⟨b0, b1, b2, b3, b4, b5⟩ := HBN.o.at_; have f0 : w5.frozen? ⟨wr.heap.size, 0, none⟩ = false := HBN.o.b.frozen 0; have f1 : w5.frozen? ⟨wr.heap.size, 1, none⟩ = false := HBN.o.b.frozen 1; have f2 : w5.frozen? ⟨wr.heap.size, 2, none⟩ = false := HBN.o.b.frozen 2; have f3 : w5.frozen? ⟨wr.heap.size, 3, none⟩ = false := HBN.o.b.frozen 3; have f4 : w5.frozen? ⟨wr.heap.size, 4, none⟩ = false := HBN.o.b.frozen 4; have f5 : w5.frozen? ⟨wr.heap.size, 5, none⟩ = false := HBN.o.b.frozen 5))
    all_goals go_wp2
    all_goals go_meet
    all_goals first
     | exact ⟨_, _, _, _, _, rfl, rfl, HBN.o.fill (.int .i64 mop) (.slice A5 mins.length c5) (.int .i64 mkind) (.int .i64 mfa) (.int .i64 ma) (.slice B5 mbody.length d5), hu5, (((Ext.refl wr).alloc _).drew.trans he5).a3Z (a3G (ExtQ.refl (fun k => k = wr.heap.size) w5) (q := wr.heap.size) rfl (.int .i64 mop) (.slice A5 mins.length c5) (.int .i64 mkind) (.int .i64 mfa) (.int .i64 ma) (.slice B5 mbody.length d5)) (fun g hg => Nat.le_of_eq hg.symm), Nat.le_refl _⟩
     | exact ⟨_, _, _, _, _, rfl, rfl, Bx6.new w5 101 (.int .i64 mop) (.slice A5 mins.length c5) (.int .i64 mkind) (.int .i64 mfa) (.int .i64 ma) (.slice B5 mbody.length d5), hu5, ((Ext.refl wr).drew.trans he5).alloc _, he5.size⟩
   case rest =>
   obtain ⟨n9, Au, cu, Ab, cb, rfl, rfl, hb9, hu9, hx9, hn9⟩ := hcut;rename World => w9
   have HB9 := hid hb9;have HU9 := hid hu9;have HE9 := hid (HE.o.trans hx9);have HO9 := hid (HO.o.ext hx9);have y0 := hx9.cell y0;have y1 := hx9.cell y1;have s0 := hx9.cell s0;have s1 := hx9.cell s1;have HNE := hid (show (Value.slice AO lk.length cO).ownBlock ≠ some n9 from fun q => by have h1 := (HO.o.own.lt _ q).2; omega)
   clear hb9 hu9 hx9 hn9 g0 g1 hA hP hA1 hP1;obtain ⟨b0, b1, b2, b3, b4, b5⟩ := HB9.o.at_;have HSS := hid (show a2y false pj l pl ++ a4F false pj l (pl.take (k + 1)) = lk by rw [HS.o, show a5q false pj (.mk mop mins mkind mfa ma mbody) (x1, x2) = [] from rfl, List.append_nil])
   have hjd : ¬ pj < 0 := by have := HJ.o; omega
   go_upto_region 12 with fail
   go_quiet (fail)
   go_wp2
   go_roundw
   case rel => exact ⟨k + 1, HLT.o, by go_num, by rw [HSS.o]; exact HO9.o.ext ((Ext.refl _).drewN _), HE9.o.drewN _⟩
   case measure => have := HLT.o; simp [intOf]; omega
 obtain rfl : k = pl.length := by omega
 have q1 : ¬ (pl.length : Int) < (pl.length : Int) := by omega
 rw [List.take_length] at HO;clear ho hvo hext hk hlt
 go_wp2
 exact ⟨⟨2, by omega, by go_num, by rw [if_neg (by decide), if_neg (by decide)]; exact HO.o, HE.o⟩, by simp [intOf]⟩
end Go.Proofs.YtdkejfjcchlnpaaGreat
