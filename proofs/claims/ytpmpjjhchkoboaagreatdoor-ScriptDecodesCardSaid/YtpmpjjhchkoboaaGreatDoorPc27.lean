/-
  ScrEnc, RecRead, packed: what the claim needs of them.
-/
import Derived.Test.YtpmpjjhchkoboaaGreatDoorPc26
import Derived.Test.YtpmpjjhchkoboaaGreatDoorPc17
import Derived.Test.YtpmpjjhchkoboaaGreatDoorPc25
import Derived.Test.YtpmpjjhchkoboaaGreatDoorPc12
open Go.Lib (hid)
set_option linter.unusedSimpArgs false
set_option linter.unusedVariables false
set_option maxRecDepth 100000
namespace Go.Ox.Sc
open Go.Ox.Gr (numsL okI)
theorem epL_s (l : List (List Bag)) {k : Nat} (h : k < l.length) : (l.take (k + 1)).flatMap epL = (l.take k).flatMap epL ++ epL l[k] := by
 rw [List.take_succ_eq_append_getElem h, List.flatMap_append]; simp
theorem bagL_s (l : List Bag) {k : Nat} (h : k < l.length) : (l.take (k + 1)).flatMap bagL = (l.take k).flatMap bagL ++ bagL l[k] := by
 rw [List.take_succ_eq_append_getElem h, List.flatMap_append]; simp
theorem actL_s (l : List Act) {k : Nat} (h : k < l.length) : (l.take (k + 1)).flatMap actL = (l.take k).flatMap actL ++ actL l[k] := by
 rw [List.take_succ_eq_append_getElem h, List.flatMap_append]; simp
theorem actL_is (k n x y t : Int) (ks : List Int) : actL ((k, n, x, y, t), ks) = numsL [k, n, x, y, t, (ks.length : Int)] ++ numsL ks := by
 unfold actL actN numsL
 simp
theorem take_flat {α : Type} (f : α → List UInt8) (c m : Nat) (l : List α) (hm : l.length ≤ m) (h : ∀ x ∈ l, (f x).length ≤ c) (k : Nat) : ((l.take k).flatMap f).length ≤ m * c := by
 have h1 := Gr.flat_le f c (l.take k) fun x hx => h x (List.mem_of_mem_take hx)
 have h2 : (l.take k).length * c ≤ m * c := Nat.mul_le_mul_right _ (by rw [List.length_take]; omega)
 omega
end Go.Ox.Sc
namespace Go.Proofs.YtpmpjjhchkoboaaGreatDoor
open Go.RowKit Go.Ox Go.Ox.Gr Go.Ox.Sc
attribute [local irreducible] RE OE OB RB NodesR EpR InsR ActsR RP
set_option maxHeartbeats 16000000 in
theorem sEncodeO_any (d : Nat) (s : Sc) (nv iv av : Value) (w : World) (h : ScR d w nv iv av s) (hs : ScSm s) (hok : scOk s = true) :
 Calls Tryz.prog 8 #[scAg s nv iv av] w fun e w' => ∃ u, e = .returned (.tuple #[u, .int .i64 0]) ∧ OB 5 w.heap.size w' u (scL s) ∧ Ext w w' := by
 have HCK := hid (fun W (h : ScR d W nv iv av s) => sCheck_any d s nv iv av W h hs)
 rw [show scE s = 0 from by unfold scE; rw [hok]; rfl] at HCK
 have HX := hid ((Ext.refl w).alloc (scCs (.int .i64 s.cfg.1) (.int .i64 s.cfg.2.1) (.int .i64 s.cfg.2.2.1) (.int .i64 s.cfg.2.2.2) nv s.g.2 iv av))
 have HB := hid (Bx8.new w 30 (.int .i64 s.cfg.1) (.int .i64 s.cfg.2.1) (.int .i64 s.cfg.2.2.1) (.int .i64 s.cfg.2.2.2) nv (.int .i64 s.g.2) iv av)
 have HH := hid (h.ext HX.out)
 obtain ⟨⟨AN, cN, rfl⟩, ⟨AI, cI, rfl⟩, ⟨AA, cA, rfl⟩⟩ := h.form
 obtain ⟨p1, p2, p3, p4, p5, p6⟩ := scOk_parts hok
 have HSC := hid (show scL s = ((numsL (cfgN s.cfg) ++ partL (Gr.grL s.g)) ++ Num.put s.ins.length) ++ s.ins.flatMap epL ++ Num.put s.acts.length ++ s.acts.flatMap actL from by unfold scL; simp only [List.append_assoc])
 obtain ⟨⟨k0, k1, k2, k3⟩, ⟨ns, out⟩, ins, acts⟩ := s
 dsimp only at *
 rw [show cfgN (k0, k1, k2, k3) = [k0, k1, k2, k3] from rfl] at HSC p1
 have HCF := hid (show ∀ x ∈ [k0, k1, k2, k3], okI x from fun x hx => inR_ok (p1 x hx) (by omega))
 have HGO := hid (show gOk (ns, out) = true ∧ PutN 2 ns ∧ okI out from ⟨p2, (Gr.gOk_fit p2).1.put, (Gr.gOk_fit p2).2⟩)
 have HGL := hid (gr_len p2)
 have HI16 := hid p3
 have HIO := hid p4
 have HA256 := hid p5
 have HAO := hid p6
 have HPL := hid (show (((numsL [k0, k1, k2, k3] ++ partL (Gr.grL (ns, out))) ++ Num.put ins.length)).length ≤ 90000 from by
  have a1 := numsL_len [k0, k1, k2, k3] HCF.out
  have a2 := partL_len (b := Gr.grL (ns, out)) (by have := HGL.out; omega)
  have a3 := put_le9 (n := ins.length) (by omega)
  have a4 := HGL.out
  simp only [List.length_append, List.length_cons, List.length_nil] at *
  omega)
 have HFL := hid (take_flat epL 140000 16 ins p3 fun l hl => by have := epL_len (c := 4096) (p4 l hl) (ep_le (p4 l hl)); omega)
 have HFA := hid (take_flat actL 400 256 acts p5 fun a ha => actL_len (p6 a ha))
 clear h hs hok p1 p2 p3 p4 p5 p6
 go_enter Tryz.func8, Tryz.ntmps8
 go_upto_region 1 with fail
 generalize w.heap.size = p at *
 generalize w.alloc (scCs (.int .i64 k0) (.int .i64 k1) (.int .i64 k2) (.int .i64 k3) (.slice AN ns.length cN) out (.slice AI ins.length cI) (.slice AA acts.length cA)) = w0 at *
 obtain ⟨c0, c1, c2, c3, c4, c5, c6, c7⟩ := HB.out.at_
 go_wp2_with fail
 refine (HCK.out _ HH.out).mono ?_
 rintro e w1 ⟨rfl, he1⟩
 have HX1 := hid (HX.out.trans he1)
 have HB1 := hid (HB.out.ext he1)
 have HH1 := hid (HH.out.ext he1)
 have hal := (Ext.refl w1).alloc (.cells #[.slice none 0 0] 58)
 have HW2 := hid (show WT w1.heap.size w1.heap.size (w1.alloc (.cells #[.slice none 0 0] 58)) (.slice none 0 0) [] from ⟨Blk.new _ _ _, OB.nilO _ _ _, by simp [Value.ownBlock]⟩)
 have HB2 := hid (HB1.out.ext hal)
 have HAL := hid hal
 clear he1 hal c0 c1 c2 c3 c4 c5 c6 c7 HCK
 go_upto_region 5 with fail
 obtain ⟨q, hq⟩ : ∃ q, q = w1.heap.size := ⟨_, rfl⟩
 have HQ := hid hq
 have HW2 := hid (show WT w1.heap.size q (w1.alloc (.cells #[.slice none 0 0] 58)) (.slice none 0 0) [] from by have := HW2.out; rwa [← hq] at this ⊢)
 rw [← hq]
 clear hq
 generalize w1.alloc (.cells #[.slice none 0 0] 58) = w2 at *
 obtain ⟨c0, c1, c2, c3, c4, c5, c6, c7⟩ := HB2.out.at_
 have H0 := hid (show (numsL [k0, k1, k2, k3]).length ≤ 36 from numsL_len _ HCF.out)
 generalize hl0 : numsL [k0, k1, k2, k3] = l0 at *
 have HL0 := hid hl0
 clear hl0
 go_wp2_with fail
 refine (config_any k0 k1 k2 k3 _).mono ?_
 rintro e w3 ⟨u3, rfl, ho3, he3⟩
 have HC4 := hid (snumbers_any w1.heap.size q (.slice none 0 0) u3 [] [k0, k1, k2, k3] w3 (HW2.out.ext he3) (Nat.le_trans (Nat.le_trans HAL.out.size (Nat.le_refl _)) he3.size) (own_stabI HW2.out ho3 (Nat.le_refl _)) (by simp) HCF.out (by simp))
 rw [List.nil_append, HL0.out] at HC4
 have HX3 := hid (WX.of (p := q) (bv := .slice none 0 0) he3)
 obtain ⟨A3, m3, rfl⟩ := ho3.re.form
 clear ho3 he3 c0 c1 c2 c3 c4 c5 c6 c7
 go_wp2_with fail
 refine HC4.out.mono ?_
 rintro e w4 ⟨rfl, b4, hw4, hx4⟩
 have HW4 := hid hw4
 have HX4 := hid (HX3.out.trans hx4)
 have hold := (HX3.out.trans hx4).old HAL.out (by have := HQ.out; omega) HW2.out.ob
 have HB4 := hid (HB1.out.ext hold)
 have HCG := hid (gPutO_any d (.slice AN ns.length cN) ns out w4 (HH1.out.n.ext hold) HGO.out.1 HGO.out.2.1 HGO.out.2.2)
 clear hw4 hx4 hold
 generalize hgl : grL (ns, out) = gl at *
 have HGG := hid hgl
 clear hgl
 obtain ⟨c0, c1, c2, c3, c4, c5, c6, c7⟩ := HB4.out.at_
 go_wp2_with fail
 refine HCG.out.mono ?_
 rintro e w5 ⟨u5, rfl, ho5, he5⟩
 have HC6 := hid (spart_any w1.heap.size q b4 u5 l0 gl 0 w5 (HW4.out.ext he5) (Nat.le_trans HAL.out.size (Nat.le_trans HX4.out.x.size he5.size)) (own_stabB HW4.out ho5 (Nat.le_refl _)) (by have := HGL.out; omega) (by have := H0.out; omega))
 have HX5 := hid (HX4.out.ext he5)
 obtain ⟨A5, m5, rfl⟩ := ho5.form
 clear ho5 he5 c0 c1 c2 c3 c4 c5 c6 c7
 go_wp2_with fail
 refine HC6.out.mono ?_
 rintro e w6 ⟨rfl, b6, hw6, hx6⟩
 have HX6 := hid (HX5.out.trans hx6)
 have hold := (HX5.out.trans hx6).old HAL.out (by have := HQ.out; omega) HW2.out.ob
 have HB6 := hid (HB1.out.ext hold)
 have hal := (Ext.refl w6).alloc (.cells #[.int .i64 (ins.length : Int)] 3)
 have HC7 := hid (snumbers_any w1.heap.size q b6 (.slice (some ⟨w6.heap.size, 0, none⟩) 1 1) (l0 ++ partL gl) [(ins.length : Int)] _ (hw6.ext hal) (Nat.le_trans hold.size hal.size) (slit_stab (cs := #[.int .i64 (ins.length : Int)]) (ns := [(ins.length : Int)]) hw6 rfl (by simp)) (by simp) (by intro z hz; simp at hz; subst hz; have := HI16.out; unfold okI; omega) (by have := HPL.out; rw [List.length_append] at this; omega))
 rw [show (l0 ++ partL gl) ++ numsL [(ins.length : Int)] = (l0 ++ partL gl) ++ Num.put ins.length by unfold numsL; simp] at HC7
 have HX6a := hid (HX6.out.ext hal)
 generalize (l0 ++ partL gl) ++ Num.put ins.length = l7 at *
 clear hw6 hx6 hold hal
 obtain ⟨c0, c1, c2, c3, c4, c5, c6, c7⟩ := HB6.out.at_
 go_wp2_with fail
 refine HC7.out.mono ?_
 rintro e w7 ⟨rfl, b7, hw7, hx7⟩
 have HW7 := hid hw7
 have HX7 := hid (HX6a.out.trans hx7)
 have HB7 := hid (HB1.out.ext ((HX6a.out.trans hx7).old HAL.out (by have := HQ.out; omega) HW2.out.ob))
 clear hw7 hx7 c0 c1 c2 c3 c4 c5 c6 c7
 obtain ⟨c0, c1, c2, c3, c4, c5, c6, c7⟩ := HB7.out.at_
 go_wp2
 clear c0 c1 c2 c3 c4 c5 c6 c7
 go_loopw [40] (fun iv wr => ∃ i : Nat, i ≤ ins.length ∧ iv = .int .i64 (i : Int) ∧ ∃ bv', WT w1.heap.size q wr bv' (l7 ++ (ins.take i).flatMap epL) ∧ WX q (.slice none 0 0) w2 bv' wr) (fun iv _ => ins.length - (intOf iv).toNat)
 case atStart => exact ⟨0, Nat.zero_le _, rfl, b7, by rw [show (ins.take 0).flatMap epL = [] from rfl, List.append_nil]; exact HW7.out, HX7.out⟩
 case round =>
  obtain ⟨i, hi, rfl, b8, hws, hwx⟩ := hrel
  have hi16 : i ≤ 16 := by have := HI16.out; omega
  by_cases hlt : i < ins.length
  · have q1 : (i : Int) < (ins.length : Int) := by omega
    have q0 : 0 ≤ (i : Int) := by omega
    have q1n : i < ins.length := hlt
    have HLT := hid hlt
    have hold := hwx.old HAL.out (by have := HQ.out; omega) HW2.out.ob
    obtain ⟨bI, oI, u0, rfl, z0, hu0⟩ := HH1.out.i.at_ hlt
    have z0 := hold.cell z0
    have HS := hid (epL_s ins hlt)
    have HLK := hid (show (l7 ++ (ins.take i).flatMap epL).length ≤ 2400000 from by have a := HPL.out; have b := HFL.out i; rw [List.length_append]; omega)
    have HEO := hid (HIO.out _ (List.getElem_mem hlt))
    generalize ins[i] = L at *
    replace HS := hid (show l7 ++ (ins.take (i + 1)).flatMap epL = ((l7 ++ (ins.take i).flatMap epL) ++ Num.put L.length) ++ L.flatMap bagL from by rw [HS.out]; unfold epL; simp only [List.append_assoc])
    have HL4 := hid (show L.length ≤ 4 ∧ (∀ b ∈ L, Rec.may b = 0 ∧ b.length ≤ 4096) from by
     have h := HEO.out
     have h2 := ep_le h
     unfold epOk at h
     simp only [Bool.and_eq_true, decide_eq_true_eq, List.all_eq_true] at h
     exact ⟨h.1, fun b hb => ⟨h.2 b hb, h2 b hb⟩⟩)
    generalize l7 ++ (ins.take i).flatMap epL = lk at *
    have HU0 := hid hu0
    obtain ⟨AL, cL, rfl⟩ := hu0.form
    have hal := (Ext.refl wr).alloc (.cells #[.int .i64 (L.length : Int)] 3)
    have HC9 := hid (snumbers_any w1.heap.size q b8 (.slice (some ⟨wr.heap.size, 0, none⟩) 1 1) lk [(L.length : Int)] _ (hws.ext hal) (Nat.le_trans hold.size hal.size) (slit_stab (cs := #[.int .i64 (L.length : Int)]) (ns := [(L.length : Int)]) hws rfl (by simp)) (by simp) (by intro z hz; simp at hz; subst hz; have := HL4.out.1; unfold okI; omega) (by have := HLK.out; omega))
    rw [show lk ++ numsL [(L.length : Int)] = lk ++ Num.put L.length by unfold numsL; simp] at HC9
    have HLM := hid (show (lk ++ Num.put L.length).length ≤ 2400009 from by have a := HLK.out; have b := put_le9 (n := L.length) (by have := HL4.out.1; omega); rw [List.length_append]; omega)
    have HFB := hid (take_flat bagL 33000 4 L HL4.out.1 fun b hb => by have := bagL_len (HL4.out.2 b hb).1; omega)
    generalize lk ++ Num.put L.length = lm at *
    have HX8 := hid (hwx.ext hal)
    clear hws hwx hal hold hlt hi hu0
    go_wp2_with fail
    refine HC9.out.mono ?_
    rintro e w9 ⟨rfl, b9, hw9, hx9⟩
    have HW9 := hid hw9
    have HX9 := hid (HX8.out.trans hx9)
    clear hw9 hx9 z0 q1 q0 q1n hi16
    go_wp2
    go_loopw [51] (fun jv wq => ∃ k : Nat, k ≤ L.length ∧ jv = .int .i64 (k : Int) ∧ ∃ bv', WT w1.heap.size q wq bv' (lm ++ (L.take k).flatMap bagL) ∧ WX q (.slice none 0 0) w2 bv' wq) (fun jv _ => L.length - (intOf jv).toNat)
    case atStart => exact ⟨0, Nat.zero_le _, rfl, b9, by rw [show (L.take 0).flatMap bagL = [] from rfl, List.append_nil]; exact HW9.out, HX9.out⟩
    case round =>
     obtain ⟨k, hk, rfl, ba, hws, hwx⟩ := hrel
     have hk4 : k ≤ 4 := by have := HL4.out.1; omega
     have hi16 : i ≤ 16 := by have := HI16.out; have := HLT.out; omega
     by_cases hkl : k < L.length
     · have r1 : (k : Int) < (L.length : Int) := by omega
       have r0 : 0 ≤ (k : Int) := by omega
       have r1n : k < L.length := hkl
       have HKL := hid hkl
       have hold := hwx.old HAL.out (by have := HQ.out; omega) HW2.out.ob
       obtain ⟨bE, oE, u3, rfl, y0, hu3⟩ := HU0.out.at_ hkl
       have y0 := hold.cell y0
       have HSB := hid (bagL_s L hkl)
       have HLN := hid (show (lm ++ (L.take k).flatMap bagL).length ≤ 2600000 from by have a := HLM.out; have b := HFB.out k; rw [List.length_append]; omega)
       have HBO := hid (HL4.out.2 _ (List.getElem_mem hkl))
       generalize L[k] = B at *
       replace HSB := hid (show lm ++ (L.take (k + 1)).flatMap bagL = (lm ++ (L.take k).flatMap bagL) ++ partL (Rec.encL B) from by rw [HSB.out, List.append_assoc]; rfl)
       have HEL := hid (show (Rec.encL B).length ≤ 40000 from by have a := Rec.enc_len HBO.out.1; have := HBO.out.2; omega)
       generalize lm ++ (L.take k).flatMap bagL = ln at *
       have HMY := hid (enc_ok u3 B wr (RP.ext hu3 hold) (by have := HBO.out.2; omega) HBO.out.1)
       generalize Rec.encL B = eb at *
       have HWS := hid hws
       have HWX := hid hwx
       have HSZ := hid hold.size
       obtain ⟨AB, cB, rfl⟩ := hu3.form
       clear hu3 hkl hk hws hwx hold
       go_wp2_with fail
       refine HMY.out.mono ?_
       rintro e w5 ⟨u5, rfl, ho5, he5⟩
       have HCP := hid (spart_any w1.heap.size q ba u5 ln eb 0 w5 (HWS.out.ext he5) (Nat.le_trans HSZ.out he5.size) (own_stabB HWS.out ho5 (Nat.le_refl _)) (by have := HEL.out; omega) (by have := HLN.out; omega))
       have HXP := hid (HWX.out.ext he5)
       obtain ⟨A5, m5, rfl⟩ := ho5.form
       clear ho5 he5 y0
       go_wp2_with fail
       refine HCP.out.mono ?_
       rintro e w6 ⟨rfl, bz, hw6, hx6⟩
       have HW6 := hid hw6
       have HX6 := hid (HXP.out.trans hx6)
       clear hw6 hx6
       go_wp2
       exact ⟨⟨k + 1, HKL.out, by go_num, _, by rw [HSB.out]; exact HW6.out, HX6.out⟩, by have := HKL.out; simp [intOf]; omega⟩
     · obtain rfl : k = L.length := by omega
       have r1 : ¬ (L.length : Int) < (L.length : Int) := by omega
       rw [List.take_length] at hws
       have HWS := hid hws
       have HWX := hid hwx
       clear hk hkl hws hwx
       go_wp2
       exact ⟨⟨i + 1, HLT.out, by go_num, _, by rw [HS.out]; exact HWS.out, HWX.out⟩, by have := HLT.out; simp [intOf]; omega⟩
  · obtain rfl : i = ins.length := by omega
    have q1 : ¬ (ins.length : Int) < (ins.length : Int) := by omega
    rw [List.take_length] at hws
    have HL8 := hid (show (l7 ++ ins.flatMap epL).length ≤ 2400000 from by have a := HPL.out; have b := HFL.out ins.length; rw [List.take_length] at b; rw [List.length_append]; omega)
    generalize l7 ++ ins.flatMap epL = l8 at *
    have hold := hwx.old HAL.out (by have := HQ.out; omega) HW2.out.ob
    have HB8 := hid (HB1.out.ext hold)
    have hal := (Ext.refl wr).alloc (.cells #[.int .i64 (acts.length : Int)] 3)
    have HC9 := hid (snumbers_any w1.heap.size q b8 (.slice (some ⟨wr.heap.size, 0, none⟩) 1 1) l8 [(acts.length : Int)] _ (hws.ext hal) (Nat.le_trans hold.size hal.size) (slit_stab (cs := #[.int .i64 (acts.length : Int)]) (ns := [(acts.length : Int)]) hws rfl (by simp)) (by simp) (by intro z hz; simp at hz; subst hz; have := HA256.out; unfold okI; omega) (by have := HL8.out; omega))
    rw [show l8 ++ numsL [(acts.length : Int)] = l8 ++ Num.put acts.length by unfold numsL; simp] at HC9
    have HL9 := hid (show (l8 ++ Num.put acts.length).length ≤ 2400009 from by have a := HL8.out; have b := put_le9 (n := acts.length) (by have := HA256.out; omega); rw [List.length_append]; omega)
    generalize l8 ++ Num.put acts.length = l9 at *
    have HX8 := hid (hwx.ext hal)
    clear hws hwx hal hold hlt hi hi16
    obtain ⟨c0, c1, c2, c3, c4, c5, c6, c7⟩ := HB8.out.at_
    go_wp2_with fail
    refine HC9.out.mono ?_
    rintro e w9 ⟨rfl, b9, hw9, hx9⟩
    have HW9 := hid hw9
    have HX9 := hid (HX8.out.trans hx9)
    have HB9 := hid (HB1.out.ext ((HX8.out.trans hx9).old HAL.out (by have := HQ.out; omega) HW2.out.ob))
    clear hw9 hx9 q1 c0 c1 c2 c3 c4 c5 c6 c7
    obtain ⟨c0, c1, c2, c3, c4, c5, c6, c7⟩ := HB9.out.at_
    go_wp2
    clear c0 c1 c2 c3 c4 c5 c6 c7
    go_loopw [72] (fun jv wq => ∃ k : Nat, k ≤ acts.length ∧ jv = .int .i64 (k : Int) ∧ ∃ bv', WT w1.heap.size q wq bv' (l9 ++ (acts.take k).flatMap actL) ∧ WX q (.slice none 0 0) w2 bv' wq) (fun jv _ => acts.length - (intOf jv).toNat)
    case atStart => exact ⟨0, Nat.zero_le _, rfl, b9, by rw [show (acts.take 0).flatMap actL = [] from rfl, List.append_nil]; exact HW9.out, HX9.out⟩
    case round =>
     obtain ⟨k, hk, rfl, ba, hws, hwx⟩ := hrel
     have hk256 : k ≤ 256 := by have := HA256.out; omega
     by_cases hkl : k < acts.length
     · have r1 : (k : Int) < (acts.length : Int) := by omega
       have r0 : 0 ≤ (k : Int) := by omega
       have r1n : k < acts.length := hkl
       have HKL := hid hkl
       have hold := hwx.old HAL.out (by have := HQ.out; omega) HW2.out.ob
       obtain ⟨bE, oE, u3, rfl, z0, z1, z2, z3, z4, z5, hu3⟩ := HH1.out.a.at_ hkl
       have z0 := hold.cell z0
       have z1 := hold.cell z1
       have z2 := hold.cell z2
       have z3 := hold.cell z3
       have z4 := hold.cell z4
       have z5 := hold.cell z5
       have HSB := hid (actL_s acts hkl)
       have HLN := hid (show (l9 ++ (acts.take k).flatMap actL).length ≤ 2600000 from by have a := HL9.out; have b := HFA.out k; rw [List.length_append]; omega)
       have HAK := hid (actOk_parts (HAO.out _ (List.getElem_mem hkl)))
       generalize acts[k] = a at *
       obtain ⟨⟨ak, an, aa, ab, at_⟩, ks⟩ := a
       dsimp only at z0 z1 z2 z3 z4 z5 hu3
       replace HSB := hid (show l9 ++ (acts.take (k + 1)).flatMap actL = ((l9 ++ (acts.take k).flatMap actL) ++ numsL [ak, an, aa, ab, at_, (ks.length : Int)]) ++ numsL ks from by rw [HSB.out, actL_is]; simp only [List.append_assoc])
       have HK6 := hid (show (∀ x ∈ [ak, an, aa, ab, at_, (ks.length : Int)], okI x) ∧ ks.length ≤ 256 ∧ ∀ x ∈ ks, okI x from by
        obtain ⟨h1, h2, h3⟩ := HAK.out
        refine ⟨fun x hx => ?_, h2, fun x hx => by have := h3 x hx; unfold okI; omega⟩
        simp at hx
        rcases hx with rfl | rfl | rfl | rfl | rfl | rfl
        · exact h1 _ (by simp [actN])
        · exact h1 _ (by simp [actN])
        · exact h1 _ (by simp [actN])
        · exact h1 _ (by simp [actN])
        · exact h1 _ (by simp [actN])
        · dsimp only at h2; unfold okI; omega)
       generalize l9 ++ (acts.take k).flatMap actL = ln at *
       have HU3 := hid hu3
       obtain ⟨AB, cB, rfl⟩ := hu3.form
       have hxn := (Ext.refl wr).alloc (actCs ak an aa ab at_ (.slice AB ks.length cB))
       have HWSN := hid (hws.ext hxn)
       have HWXN := hid (hwx.ext hxn)
       have HSZ := hid (Nat.le_trans hold.size hxn.size)
       have HNB0 := hid (Bx6.new wr 47 (.int .i64 ak) (.int .i64 an) (.int .i64 aa) (.int .i64 ab) (.int .i64 at_) (.slice AB ks.length cB))
       have HNE := hid (show wr.heap.size ≠ q ∧ ba.ownBlock ≠ some wr.heap.size from ⟨fun e => by have := hws.blk.lt; omega, fun e => by have := (hws.ob.own.lt _ e).2; omega⟩)
       clear hws hwx hu3 hxn hkl hk hold
       go_upto_region 22 with fail
       clear z0 z1 z2 z3 z4 z5
       generalize wr.heap.size = qa at *
       generalize wr.alloc (actCs ak an aa ab at_ (.slice AB ks.length cB)) = wn at *
       obtain ⟨y0, y1, y2, y3, y4, y5⟩ := HNB0.out.at_
       have hal := (Ext.refl wn).alloc (.cells #[.int .i64 ak, .int .i64 an, .int .i64 aa, .int .i64 ab, .int .i64 at_, .int .i64 (ks.length : Int)] 3)
       have HC4 := hid (snumbers_any w1.heap.size q ba (.slice (some ⟨wn.heap.size, 0, none⟩) 6 6) ln [ak, an, aa, ab, at_, (ks.length : Int)] _ (HWSN.out.ext hal) (Nat.le_trans HSZ.out hal.size) (slit_stab (cs := #[.int .i64 ak, .int .i64 an, .int .i64 aa, .int .i64 ab, .int .i64 at_, .int .i64 (ks.length : Int)]) (ns := [ak, an, aa, ab, at_, (ks.length : Int)]) HWSN.out rfl (by simp)) (by simp) HK6.out.1 (by have h1 := HLN.out; omega))
       have HXA4 := hid (HWXN.out.ext hal)
       have HBA4 := hid (HNB0.out.ext hal)
       clear hal
       go_wp2_with fail
       refine HC4.out.mono ?_
       rintro e w4 ⟨rfl, b4, hw4, hx4⟩
       have HB4 := hid (Bx6.far HBA4.out hx4 HNE.out.1 HNE.out.2)
       have HX4 := hid (HXA4.out.trans hx4)
       clear y0 y1 y2 y3 y4 y5
       obtain ⟨y0, y1, y2, y3, y4, y5⟩ := HB4.out.1.at_
       have HC5 := hid (snumbers_any w1.heap.size q b4 (.slice AB ks.length cB) _ ks w4 hw4 (Nat.le_trans HAL.out.size HX4.out.x.size) (fun W hW => RE.ext HU3.out ((HX4.out.more hW).old HAL.out (by have := HQ.out; omega) HW2.out.ob)) (by have := HK6.out.2.1; omega) HK6.out.2.2 (by have h1 := HLN.out; have h2 := numsL_len _ HK6.out.1; rw [List.length_append]; simp only [List.length_cons, List.length_nil] at h2; omega))
       clear hw4 hx4
       go_wp2_with fail
       refine HC5.out.mono ?_
       rintro e w5 ⟨rfl, b5, hw5, hx5⟩
       have HW5 := hid hw5
       have HX5 := hid (HX4.out.trans hx5)
       clear hw5 hx5 y0 y1 y2 y3 y4 y5
       go_wp2
       exact ⟨⟨k + 1, HKL.out, by go_num, _, by rw [HSB.out]; exact HW5.out, HX5.out⟩, by have := HKL.out; simp [intOf]; omega⟩
     · obtain rfl : k = acts.length := by omega
       have r1 : ¬ (acts.length : Int) < (acts.length : Int) := by omega
       rw [List.take_length] at hws
       have HWS := hid hws
       have HE4 := hid (hwx.old HAL.out (by have := HQ.out; omega) HW2.out.ob)
       obtain ⟨A4, n4, c4, hb4⟩ : ∃ A n c, ba = .slice A n c := by obtain ⟨A, c, h⟩ := hws.ob.form; exact ⟨A, _, c, h⟩
       subst hb4
       have d0 : wr.cell? ⟨q, 0, none⟩ = some (.slice A4 n4 c4) := hws.blk.cell 0
       clear hk hkl hws hwx
       go_wp2
       go_ret2
       rw [HSC.out]
       exact ⟨_, rfl, HWS.out.ob.low HX1.out.size, HX1.out.trans HE4.out⟩
theorem sEncode_any (d : Nat) (s : Sc) (nv iv av : Value) (w : World) (h : ScR d w nv iv av s) (hs : ScSm s) (hok : scOk s = true) :
 Calls Tryz.prog 8 #[scAg s nv iv av] w fun e w' => ∃ u, e = .returned (.tuple #[u, .int .i64 0]) ∧ RB w' u (scL s) ∧ Ext w w' :=
 (sEncodeO_any d s nv iv av w h hs hok).mono fun _ _ ⟨u, h1, h2, h3⟩ => ⟨u, h1, h2.rb, h3⟩
end Go.Proofs.YtpmpjjhchkoboaaGreatDoor
namespace Go.Proofs.YtpmpjjhchkoboaaGreatDoor
open Go.RowKit Go.Ox
open Go.Ox.Rec (readM readS readE readV)
def ReadPost (K : Nat → Prop) (T : TypeId) (g : Nat) (s : Num.St) (w : World) (e : Ending) (w' : World) : Prop := e = .returned (.tuple #[mV (readV s), .int .i64 (readE s)]) ∧ XR K T g (readS s).l (readS s).bad w w'
section
variable {K : Nat → Prop} {T : TypeId} {g : Nat} {s : Num.St} {w w' : World}
theorem ReadPost.bad (h : (readS s).bad = true) (he : XR K T g (readS s).l (readS s).bad w w') : ReadPost K T g s w (.returned (.tuple #[.agg #[.int .i64 0, .int .i64 0], .int .i64 10])) w' := by
 unfold ReadPost; refine ⟨?_, he⟩; unfold readE readV; rw [if_pos h, if_pos h]
theorem ReadPost.no (h : (readS s).bad = false) (h2 : Rec.ok (readM s) = false) (he : XR K T g (readS s).l (readS s).bad w w') : ReadPost K T g s w (.returned (.tuple #[.agg #[.int .i64 0, .int .i64 0], .int .i64 30])) w' := by
 unfold ReadPost; refine ⟨?_, he⟩; unfold readE readV; rw [h, h2]; rfl
theorem ReadPost.yes {x y : Nat} (h : (readS s).bad = false) (h2 : Rec.ok (readM s) = true) (hm : readM s = ((x : Int), (y : Int))) (he : XR K T g (readS s).l (readS s).bad w w') : ReadPost K T g s w (.returned (.tuple #[.agg #[.int .i64 (x : Int), .int .i64 (y : Int)], .int .i64 0])) w' := by
 unfold ReadPost; refine ⟨?_, he⟩; unfold readE readV; rw [h, h2, hm]; rfl
end
variable {K : Nat → Prop}
set_option maxHeartbeats 1000000 in
theorem mread_any (g : Nat) (s : Num.St) (w : World) (h0 : NR K w g s) (hl : s.l.length ≤ 1000000) (hK : ∀ b, K b → b < w.heap.size) :
 Calls Tryz.prog 149 #[.pointer (some ⟨g, 0, none⟩)] w (ReadPost K 136 g s w) := by
 have hg := h0.lt
 have HKG := hid (And.intro hK hg)
 have HN1 := hid (fun w (h : NR K w g s) => num_any g s w h hl)
 have HN2 := hid (fun w (h : NR K w g (Num.numP s).1) => num_any g (Num.numP s).1 w h (Nat.le_trans (Num.numP_len s) hl))
 have HP1 := hid (fun w' h he => @ReadPost.bad K 136 g s w w' h he)
 have HP2 := hid (fun w' h h2 he => @ReadPost.no K 136 g s w w' h h2 he)
 have HP3 := hid (fun w' x y h h2 hm he => @ReadPost.yes K 136 g s w w' x y h h2 hm he)
 have hM : readM s = ((((Num.numP s).2 : Nat) : Int), (((Num.numP (Num.numP s).1).2 : Nat) : Int)) := rfl
 have hS : readS s = (Num.numP (Num.numP s).1).1 := rfl
 have H0 := hid (h0.ext ((Ext.refl w).alloc (.cells #[.int .i64 0, .int .i64 0] 55)))
 have HG0 := hid (ExtG.of (g := g) ((Ext.refl w).alloc (.cells #[.int .i64 0, .int .i64 0] 55)))
 have HB0 := hid (Blk.new w 55 #[.int .i64 0, .int .i64 0])
 generalize (Num.numP s).1 = s1 at *
 generalize (Num.numP s).2 = x at *
 rw [← hS] at HN2
 generalize readS s = s2 at *
 generalize (Num.numP s1).2 = y at *
 have HM := hid hM
 clear h0 hM hS hl hK
 have hne : w.heap.size ≠ g := by omega
 have HNE := hid hne
 clear hne
 go_enter Tryz.func149, Tryz.ntmps149
 go_wp2_with fail
 refine (HN1.out _ H0.out).mono ?_
 rintro e w1 ⟨rfl, hN1, he1⟩
 have HX1 := hid he1
 have HS1 := hid hN1
 clear he1 hN1
 go_wp2_with fail
 refine (HN2.out _ HS1.out).mono ?_
 rintro e w2 ⟨rfl, hN2, he2⟩
 have HX2 := hid (HX1.out.trans he2)
 have HS2 := hid hN2
 clear he2 hN2
 have hlt2 := (HB0.out.extG HX2.out HNE.out).lt
 go_wp2_with fail
 obtain ⟨k, hk⟩ : ∃ k, w2.heap.size = k := ⟨_, rfl⟩
 have B1 := Blk.new w2 55 #[.int .i64 (x : Int), .int .i64 (y : Int)]
 have B0 := (HB0.out.extG HX2.out HNE.out).ext ((Ext.refl w2).alloc (.cells #[.int .i64 (x : Int), .int .i64 (y : Int)] 55))
 have HS3 := hid (HS2.out.ext ((Ext.refl w2).alloc (.cells #[.int .i64 (x : Int), .int .i64 (y : Int)] 55)))
 have HX3 := hid (XR.alloc (And.intro (And.intro (HG0.out.trans HX2.out) HS2.out) HKG.out) (.cells #[.int .i64 (x : Int), .int .i64 (y : Int)] 55))
 rw [hk] at B1 hlt2 ⊢
 generalize w2.alloc (.cells #[.int .i64 (x : Int), .int .i64 (y : Int)] 55) = w3 at *
 have HB0' := hid B0
 have HB1 := hid B1
 clear B0 B1 hk
 have c0 : w3.cell? ⟨w.heap.size, 0, none⟩ = some (.int .i64 0) := HB0'.out.cell 0
 have c1 : w3.cell? ⟨w.heap.size, 1, none⟩ = some (.int .i64 0) := HB0'.out.cell 1
 have f0 : w3.frozen? ⟨w.heap.size, 0, none⟩ = false := HB0'.out.frozen 0
 have f1 : w3.frozen? ⟨w.heap.size, 1, none⟩ = false := HB0'.out.frozen 1
 have d0 : w3.cell? ⟨k, 0, none⟩ = some (.int .i64 (x : Int)) := HB1.out.cell 0
 have d1 : w3.cell? ⟨k, 1, none⟩ = some (.int .i64 (y : Int)) := HB1.out.cell 1
 refine (bad_any g s2 _ HS3.out).mono ?_
 rintro e w' ⟨rfl, rfl⟩
 cases hb : s2.bad with
 | true =>
  rw [hb] at HP1 HX3
  go_wp2
  have ho : ∀ u v : Value, ((w3.setCell ⟨w.heap.size, 0, none⟩ u).setCell ⟨w.heap.size, 1, none⟩ v).cell? ⟨w.heap.size, 0, none⟩ = some u ∧ ((w3.setCell ⟨w.heap.size, 0, none⟩ u).setCell ⟨w.heap.size, 1, none⟩ v).cell? ⟨w.heap.size, 1, none⟩ = some v := fun u v => ⟨((HB0'.out.set_ 0 u).set_ 1 v).cell 0, ((HB0'.out.set_ 0 u).set_ 1 v).cell 1⟩
  exact bodyPost_ret (v := .tuple #[.agg #[.int .i64 0, .int .i64 0], .int .i64 10]) (by simp [results, Tryz.results149, go_sem, ho]) rfl (HP1.out _ trivial (XR.set (XR.set HX3.out (Nat.le_refl _) _) (Nat.le_refl _) _))
 | false =>
  have HC := hid (fun w => check_any ((x : Int), (y : Int)) w)
  rw [hb] at HP2 HP3 HX3
  go_wp2_with fail
  cases hok : Rec.ok ((x : Int), (y : Int)) with
  | true =>
   rw [hok, if_pos rfl] at HC
   have HP := hid (fun w' he => HP3.out w' x y trivial (by rw [HM.out]; exact hok) HM.out he)
   clear HP1 HP2 HP3 hok
   refine (HC.out _).mono ?_
   rintro e w4 ⟨rfl, he4⟩
   have B4 := HB0'.out.ext he4
   have D4 := HB1.out.ext he4
   have HX4 := hid (HX3.out.ext he4)
   have HB4 := hid B4
   clear c0 c1 f0 f1 d0 d1 he4
   have c0 : w4.cell? ⟨w.heap.size, 0, none⟩ = some (.int .i64 0) := B4.cell 0
   have c1 : w4.cell? ⟨w.heap.size, 1, none⟩ = some (.int .i64 0) := B4.cell 1
   have f0 : w4.frozen? ⟨w.heap.size, 0, none⟩ = false := B4.frozen 0
   have f1 : w4.frozen? ⟨w.heap.size, 1, none⟩ = false := B4.frozen 1
   have d0 : w4.cell? ⟨k, 0, none⟩ = some (.int .i64 (x : Int)) := D4.cell 0
   have d1 : w4.cell? ⟨k, 1, none⟩ = some (.int .i64 (y : Int)) := D4.cell 1
   clear B4 D4
   go_wp2
   have ho : ∀ u v : Value, ((w4.setCell ⟨w.heap.size, 0, none⟩ u).setCell ⟨w.heap.size, 1, none⟩ v).cell? ⟨w.heap.size, 0, none⟩ = some u ∧ ((w4.setCell ⟨w.heap.size, 0, none⟩ u).setCell ⟨w.heap.size, 1, none⟩ v).cell? ⟨w.heap.size, 1, none⟩ = some v := fun u v => ⟨((HB4.out.set_ 0 u).set_ 1 v).cell 0, ((HB4.out.set_ 0 u).set_ 1 v).cell 1⟩
   exact bodyPost_ret (v := .tuple #[.agg #[.int .i64 (x : Int), .int .i64 (y : Int)], .int .i64 0]) (by simp [results, Tryz.results149, go_sem, ho]) rfl (HP.out _ (XR.set (XR.set HX4.out (Nat.le_refl _) _) (Nat.le_refl _) _))
  | false =>
   rw [hok, if_neg (by simp)] at HC
   have HP := hid (fun w' he => HP2.out w' trivial (by rw [HM.out]; exact hok) he)
   clear HP1 HP2 HP3 hok
   refine (HC.out _).mono ?_
   rintro e w4 ⟨rfl, he4⟩
   have B4 := HB0'.out.ext he4
   have HX4 := hid (HX3.out.ext he4)
   have HB4 := hid B4
   clear c0 c1 f0 f1 d0 d1 he4
   have c0 : w4.cell? ⟨w.heap.size, 0, none⟩ = some (.int .i64 0) := B4.cell 0
   have c1 : w4.cell? ⟨w.heap.size, 1, none⟩ = some (.int .i64 0) := B4.cell 1
   have f0 : w4.frozen? ⟨w.heap.size, 0, none⟩ = false := B4.frozen 0
   have f1 : w4.frozen? ⟨w.heap.size, 1, none⟩ = false := B4.frozen 1
   clear B4
   go_wp2
   have ho : ∀ u v : Value, ((w4.setCell ⟨w.heap.size, 0, none⟩ u).setCell ⟨w.heap.size, 1, none⟩ v).cell? ⟨w.heap.size, 0, none⟩ = some u ∧ ((w4.setCell ⟨w.heap.size, 0, none⟩ u).setCell ⟨w.heap.size, 1, none⟩ v).cell? ⟨w.heap.size, 1, none⟩ = some v := fun u v => ⟨((HB4.out.set_ 0 u).set_ 1 v).cell 0, ((HB4.out.set_ 0 u).set_ 1 v).cell 1⟩
   exact bodyPost_ret (v := .tuple #[.agg #[.int .i64 0, .int .i64 0], .int .i64 30]) (by simp [results, Tryz.results149, go_sem, ho]) rfl (HP.out _ (XR.set (XR.set HX4.out (Nat.le_refl _) _) (Nat.le_refl _) _))
set_option maxHeartbeats 1000000 in
theorem rread_any (g : Nat) (s : Num.St) (w : World) (h0 : RR K w g s) (hl : s.l.length ≤ 1000000) (hK : ∀ b, K b → b < w.heap.size) :
 Calls Tryz.prog 112 #[.pointer (some ⟨g, 0, none⟩)] w (ReadPost K 100 g s w) := by
 have hg := h0.lt
 have HKG := hid (And.intro hK hg)
 have HN1 := hid (fun w (h : RR K w g s) => rnum_any g s w h hl)
 have HN2 := hid (fun w (h : RR K w g (Num.numP s).1) => rnum_any g (Num.numP s).1 w h (Nat.le_trans (Num.numP_len s) hl))
 have HP1 := hid (fun w' h he => @ReadPost.bad K 100 g s w w' h he)
 have HP2 := hid (fun w' h h2 he => @ReadPost.no K 100 g s w w' h h2 he)
 have HP3 := hid (fun w' x y h h2 hm he => @ReadPost.yes K 100 g s w w' x y h h2 hm he)
 have hM : readM s = ((((Num.numP s).2 : Nat) : Int), (((Num.numP (Num.numP s).1).2 : Nat) : Int)) := rfl
 have hS : readS s = (Num.numP (Num.numP s).1).1 := rfl
 have H0 := hid (h0.ext ((Ext.refl w).alloc (.cells #[.int .i64 0, .int .i64 0] 55)))
 have HG0 := hid (ExtG.of (g := g) ((Ext.refl w).alloc (.cells #[.int .i64 0, .int .i64 0] 55)))
 have HB0 := hid (Blk.new w 55 #[.int .i64 0, .int .i64 0])
 generalize (Num.numP s).1 = s1 at *
 generalize (Num.numP s).2 = x at *
 rw [← hS] at HN2
 generalize readS s = s2 at *
 generalize (Num.numP s1).2 = y at *
 have HM := hid hM
 clear h0 hM hS hl hK
 have hne : w.heap.size ≠ g := by omega
 have HNE := hid hne
 clear hne
 go_enter Tryz.func112, Tryz.ntmps112
 go_wp2_with fail
 refine (HN1.out _ H0.out).mono ?_
 rintro e w1 ⟨rfl, hN1, he1⟩
 have HX1 := hid he1
 have HS1 := hid hN1
 clear he1 hN1
 go_wp2_with fail
 refine (HN2.out _ HS1.out).mono ?_
 rintro e w2 ⟨rfl, hN2, he2⟩
 have HX2 := hid (HX1.out.trans he2)
 have HS2 := hid hN2
 clear he2 hN2
 have B0 := HB0.out.extG HX2.out HNE.out
 have hlt2 := B0.lt
 have HB0' := hid (B0.ext ((Ext.refl w2).alloc (.cells #[.int .i64 (x : Int), .int .i64 (y : Int)] 55)))
 have HX3 := hid (XR.alloc (And.intro (And.intro (HG0.out.trans HX2.out) HS2.out) HKG.out) (.cells #[.int .i64 (x : Int), .int .i64 (y : Int)] 55))
 have hbd := HS2.out.mark.1
 have c0 : w2.cell? ⟨w.heap.size, 0, none⟩ = some (.int .i64 0) := B0.cell 0
 have c1 : w2.cell? ⟨w.heap.size, 1, none⟩ = some (.int .i64 0) := B0.cell 1
 have f0 : w2.frozen? ⟨w.heap.size, 0, none⟩ = false := B0.frozen 0
 have f1 : w2.frozen? ⟨w.heap.size, 1, none⟩ = false := B0.frozen 1
 have HB1 := hid (Blk.new w2 55 #[.int .i64 (x : Int), .int .i64 (y : Int)])
 have hg2 : g < w2.heap.size := by omega
 have HBW := hid B0
 have HXW := hid (show XR K 100 g s2.l s2.bad w w2 from And.intro (And.intro (HG0.out.trans HX2.out) HS2.out) HKG.out)
 clear B0
 cases hb : s2.bad with
 | true =>
  rw [hb] at HP1 hbd HXW
  go_wp2
  have B5 := ((HBW.out.set_ 0 (.int .i64 0)).set_ 1 (.int .i64 0)).ext ((Ext.refl _).alloc (.cells #[.int .i64 (x : Int), .int .i64 (y : Int)] 55))
  have ho0 : (((w2.setCell ⟨w.heap.size, 0, none⟩ (.int .i64 0)).setCell ⟨w.heap.size, 1, none⟩ (.int .i64 0)).alloc (.cells #[.int .i64 (x : Int), .int .i64 (y : Int)] 55)).cell? ⟨w.heap.size, 0, none⟩ = some (.int .i64 0) := B5.cell 0
  have ho1 : (((w2.setCell ⟨w.heap.size, 0, none⟩ (.int .i64 0)).setCell ⟨w.heap.size, 1, none⟩ (.int .i64 0)).alloc (.cells #[.int .i64 (x : Int), .int .i64 (y : Int)] 55)).cell? ⟨w.heap.size, 1, none⟩ = some (.int .i64 0) := B5.cell 1
  exact bodyPost_ret (v := .tuple #[.agg #[.int .i64 0, .int .i64 0], .int .i64 10]) (by simp [results, Tryz.results112, go_sem, ho0, ho1]) rfl (HP1.out _ trivial (XR.alloc (XR.set (XR.set HXW.out (p := ⟨w.heap.size, 0, none⟩) (Nat.le_refl _) _) (p := ⟨w.heap.size, 1, none⟩) (Nat.le_refl _) _) _))
 | false =>
  have HC := hid (fun w => rcheck_any ((x : Int), (y : Int)) w)
  rw [hb] at HP2 HP3 hbd HX3
  go_wp2_with fail
  clear c0 c1 f0 f1 hbd
  obtain ⟨k, hk⟩ : ∃ k, w2.heap.size = k := ⟨_, rfl⟩
  rw [hk] at HB1 hlt2 hg2 ⊢
  generalize (w2.alloc (.cells #[.int .i64 (x : Int), .int .i64 (y : Int)] 55)) = w3 at *
  clear hk
  cases hok : Rec.ok ((x : Int), (y : Int)) with
  | true =>
   rw [hok] at HC
   have HP := hid (fun w' he => HP3.out w' x y trivial (by rw [HM.out]; exact hok) HM.out he)
   clear HP1 HP2 HP3 hok
   refine (HC.out _).mono ?_
   rintro e w4 ⟨rfl, he4⟩
   have B4 := HB0'.out.ext he4
   have D4 := HB1.out.ext he4
   have HX4 := hid (HX3.out.ext he4)
   have HB4 := hid B4
   clear he4
   have c0 : w4.cell? ⟨w.heap.size, 0, none⟩ = some (.int .i64 0) := B4.cell 0
   have c1 : w4.cell? ⟨w.heap.size, 1, none⟩ = some (.int .i64 0) := B4.cell 1
   have f0 : w4.frozen? ⟨w.heap.size, 0, none⟩ = false := B4.frozen 0
   have f1 : w4.frozen? ⟨w.heap.size, 1, none⟩ = false := B4.frozen 1
   have d0 : w4.cell? ⟨k, 0, none⟩ = some (.int .i64 (x : Int)) := D4.cell 0
   have d1 : w4.cell? ⟨k, 1, none⟩ = some (.int .i64 (y : Int)) := D4.cell 1
   clear B4 D4
   go_wp2
   have ho : ∀ u v : Value, ((w4.setCell ⟨w.heap.size, 0, none⟩ u).setCell ⟨w.heap.size, 1, none⟩ v).cell? ⟨w.heap.size, 0, none⟩ = some u ∧ ((w4.setCell ⟨w.heap.size, 0, none⟩ u).setCell ⟨w.heap.size, 1, none⟩ v).cell? ⟨w.heap.size, 1, none⟩ = some v := fun u v => ⟨((HB4.out.set_ 0 u).set_ 1 v).cell 0, ((HB4.out.set_ 0 u).set_ 1 v).cell 1⟩
   exact bodyPost_ret (v := .tuple #[.agg #[.int .i64 (x : Int), .int .i64 (y : Int)], .int .i64 0]) (by simp [results, Tryz.results112, go_sem, ho]) rfl (HP.out _ (XR.set (XR.set HX4.out (Nat.le_refl _) _) (Nat.le_refl _) _))
  | false =>
   rw [hok] at HC
   have HP := hid (fun w' he => HP2.out w' trivial (by rw [HM.out]; exact hok) he)
   clear HP1 HP2 HP3 hok
   refine (HC.out _).mono ?_
   rintro e w4 ⟨rfl, he4⟩
   have B4 := HB0'.out.ext he4
   have HX4 := hid (HX3.out.ext he4)
   have HB4 := hid B4
   clear he4
   have c0 : w4.cell? ⟨w.heap.size, 0, none⟩ = some (.int .i64 0) := B4.cell 0
   have c1 : w4.cell? ⟨w.heap.size, 1, none⟩ = some (.int .i64 0) := B4.cell 1
   have f0 : w4.frozen? ⟨w.heap.size, 0, none⟩ = false := B4.frozen 0
   have f1 : w4.frozen? ⟨w.heap.size, 1, none⟩ = false := B4.frozen 1
   clear B4
   go_wp2
   have ho : ∀ u v : Value, ((w4.setCell ⟨w.heap.size, 0, none⟩ u).setCell ⟨w.heap.size, 1, none⟩ v).cell? ⟨w.heap.size, 0, none⟩ = some u ∧ ((w4.setCell ⟨w.heap.size, 0, none⟩ u).setCell ⟨w.heap.size, 1, none⟩ v).cell? ⟨w.heap.size, 1, none⟩ = some v := fun u v => ⟨((HB4.out.set_ 0 u).set_ 1 v).cell 0, ((HB4.out.set_ 0 u).set_ 1 v).cell 1⟩
   exact bodyPost_ret (v := .tuple #[.agg #[.int .i64 0, .int .i64 0], .int .i64 30]) (by simp [results, Tryz.results112, go_sem, ho]) rfl (HP.out _ (XR.set (XR.set HX4.out (Nat.le_refl _) _) (Nat.le_refl _) _))
end Go.Proofs.YtpmpjjhchkoboaaGreatDoor
