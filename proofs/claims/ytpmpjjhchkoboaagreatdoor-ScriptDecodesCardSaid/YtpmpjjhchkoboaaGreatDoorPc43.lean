/-
  GrGetR, packed: what the claim needs of them.
-/
import Derived.Deep.DeepCutAuto
import Derived.Test.YtpmpjjhchkoboaaGreatDoorPc14
import Derived.Test.YtpmpjjhchkoboaaGreatDoorPc13
import Derived.Test.YtpmpjjhchkoboaaGreatDoorPc40
import Derived.Test.YtpmpjjhchkoboaaGreatDoorPc08
open Go.Lib (hid)
set_option linter.unusedSimpArgs false
set_option linter.unusedVariables false
set_option maxRecDepth 100000
namespace Go.Ox.Gr
theorem NodesR.of_os1 {K0 : Nat → Prop} {E base d : Nat} {w : World} {v : Value} {l : List Nd} (h : OS K0 E 6 base (NdQ (NodesR d)) w v l) : NodesR (d + 1) w v l := NodesR.of_rs h.rs
end Go.Ox.Gr
namespace Go.Proofs.YtpmpjjhchkoboaaGreatDoor
open Go.RowKit Go.Ox Go.Ox.Gr
attribute [local irreducible] RE OE NodesR RB OB
structure GB (K : Nat → Prop) (B r q g : Nat) (w0 w : World) (s : Num.St) (sl : Value) (x : Int) : Prop where
 bq : Blk w q 26 #[sl, .int .i64 x]
 br : Blk w r 26 #[.slice none 0 0, .int .i64 0]
 rd : RRd K B g w s
 ex : Ext w0 w
 er : w0.heap.size = r
 rg : r < g
 gb : g < B
 bl : B ≤ q
section
variable {K : Nat → Prop} {B r q g : Nat} {w0 w w' : World} {s s' : Num.St} {sl v : Value} {x y : Int}
theorem GB.num (h : GB K B r q g w0 w s sl x) (hr : RR K w' g s') (he : ExtG g w w') : GB K B r q g w0 w' s' sl x :=
 have hx : ExtQ (fun k => k = g) w w' := ExtQ.extG he rfl
 have h1 := h.rg
 have h2 := h.gb
 have h3 := h.bl
 have h4 := h.er
 ⟨h.bq.extQ hx (fun (e : q = g) => by omega), h.br.extQ hx (fun (e : r = g) => by omega), h.rd.num hr, h.ex.andQ hx (fun k (hk : k = g) => by omega), h.er, h.rg, h.gb, h.bl⟩
theorem GB.setq (h : GB K B r q g w0 w s sl x) (i : Nat) : ExtQ (fun k => k = q) w (w.setCell ⟨q, i, none⟩ v) := ExtQ.setCell (Q := fun k => k = q) (ExtQ.refl _ _) (p := ⟨q, i, none⟩) rfl _
theorem GB.stay (h : GB K B r q g w0 w s sl x) (i : Nat) : Blk (w.setCell ⟨q, i, none⟩ v) r 26 #[.slice none 0 0, .int .i64 0] ∧ RRd K B g (w.setCell ⟨q, i, none⟩ v) s ∧ Ext w0 (w.setCell ⟨q, i, none⟩ v) :=
 have h1 := h.rg
 have h2 := h.gb
 have h3 := h.bl
 have h4 := h.er
 ⟨h.br.extQ (h.setq i) (fun (e : r = q) => by omega), h.rd.extQ ((h.setq i).mono fun k (hk : k = q) => by show B ≤ k; omega), h.ex.andQ (h.setq i) (fun k (hk : k = q) => by omega)⟩
theorem GB.set0 (h : GB K B r q g w0 w s sl x) (v : Value) : GB K B r q g w0 (w.setCell ⟨q, 0, none⟩ v) s v x := ⟨by simpa using h.bq.set_ 0 v, (h.stay 0).1, (h.stay 0).2.1, (h.stay 0).2.2, h.er, h.rg, h.gb, h.bl⟩
theorem GB.set1 (h : GB K B r q g w0 w s sl x) (y : Int) : GB K B r q g w0 (w.setCell ⟨q, 1, none⟩ (.int .i64 y)) s sl y := ⟨by simpa using h.bq.set_ 1 (.int .i64 y), (h.stay 1).1, (h.stay 1).2.1, (h.stay 1).2.2, h.er, h.rg, h.gb, h.bl⟩
theorem GB.at_ (h : GB K B r q g w0 w s sl x) : w.cell? ⟨q, 0, none⟩ = some sl ∧ w.cell? ⟨q, 1, none⟩ = some (.int .i64 x) ∧ w.frozen? ⟨q, 0, none⟩ = false ∧ w.frozen? ⟨q, 1, none⟩ = false := ⟨h.bq.cell 0, h.bq.cell 1, h.bq.frozen 0, h.bq.frozen 1⟩
theorem GB.out (h : Ext w0 w) (hb : Blk w r 26 #[.slice none 0 0, .int .i64 0]) (hr : w0.heap.size = r) (v : Value) (x : Int) :
 Blk ((w.setCell ⟨r, 0, none⟩ v).setCell ⟨r, 1, none⟩ (.int .i64 x)) r 26 #[v, .int .i64 x] ∧ Ext w0 ((w.setCell ⟨r, 0, none⟩ v).setCell ⟨r, 1, none⟩ (.int .i64 x)) ∧ ExtQ (fun k => k = r) w ((w.setCell ⟨r, 0, none⟩ v).setCell ⟨r, 1, none⟩ (.int .i64 x)) :=
 have hw : ExtQ (fun k => k = r) w ((w.setCell ⟨r, 0, none⟩ v).setCell ⟨r, 1, none⟩ (.int .i64 x)) := ExtQ.setCell (Q := fun k => k = r) (ExtQ.setCell (Q := fun k => k = r) (ExtQ.refl _ _) (p := ⟨r, 0, none⟩) rfl _) (p := ⟨r, 1, none⟩) rfl _
 ⟨by simpa using (hb.set_ 0 v).set_ 1 (.int .i64 x), h.andQ hw (fun k (hk : k = r) => by omega), hw⟩
end
set_option maxHeartbeats 16000000 in
theorem rGetS_any (v : Value) (b : List UInt8) (w : World) (hv : RB w v b) (hl : b.length ≤ 1000000) :
 Calls Tryz.prog 63 #[v] w fun e w' => ∃ u, e = .returned (.tuple #[gAg u (gres (getR b)).2, .bool (getR b).2]) ∧ (∀ W, ExtQ (fun k => k < w.heap.size) w' W → NodesR 2 W u (gres (getR b)).1) ∧ Ext w w' := by
 have HX0 := hid ((Ext.refl w).alloc (gCs (.slice none 0 0) 0))
 have HR0 := hid (Blk.new w 26 #[.slice none 0 0, .int .i64 0])
 have HP := hid (show getR b = if 32 < (Num.numP ⟨b, false⟩).2 then (([], 0), false) else (((itrR (nodeR 1) (Num.numP ⟨b, false⟩).2 (Num.numP ⟨b, false⟩).1).2, ((Num.numP (itrR (nodeR 1) (Num.numP ⟨b, false⟩).2 (Num.numP ⟨b, false⟩).1).1).2 : Int)), !(Num.numP (itrR (nodeR 1) (Num.numP ⟨b, false⟩).2 (Num.numP ⟨b, false⟩).1).1).1.bad && ((Num.numP (itrR (nodeR 1) (Num.numP ⟨b, false⟩).2 (Num.numP ⟨b, false⟩).1).1).1.l.isEmpty && gOk ((itrR (nodeR 1) (Num.numP ⟨b, false⟩).2 (Num.numP ⟨b, false⟩).1).2, ((Num.numP (itrR (nodeR 1) (Num.numP ⟨b, false⟩).2 (Num.numP ⟨b, false⟩).1).1).2 : Int)))) from rfl)
 have HL := hid hl
 have HN := hid (fun (K : Nat → Prop) g w (h : RR K w g ⟨b, false⟩) => rnum_any g ⟨b, false⟩ w h hl)
 have hln := Num.numP_len ⟨b, false⟩
 generalize getR b = res at *
 generalize Num.numP ⟨b, false⟩ = t at *
 obtain ⟨s1, n⟩ := t
 dsimp only at HP HN hln
 have HL1 := hid (show s1.l.length ≤ 1000000 by omega)
 obtain ⟨A, c, rfl⟩ := RB.form hv
 have HE0 := hid ((Ext.refl (w.alloc (gCs (.slice none 0 0) 0))).alloc (.cells #[] 5))
 have HV := hid ((hv.ext HX0.out).ext HE0.out)
 have HOL := hid (OB.emptyL (w.alloc (gCs (.slice none 0 0) 0)) 5)
 clear hv hl hln
 go_enter Tryz.func63, Tryz.ntmps63
 go_upto_region 1 with fail
 obtain ⟨r, hr⟩ : ∃ r, r = w.heap.size := ⟨_, rfl⟩
 rw [← hr] at HR0 ⊢
 have HR := hid hr
 clear hr
 generalize w.alloc (gCs (.slice none 0 0) 0) = w0 at *
 go_wp2_with (at_builtin; refine wpList_appBB rfl elemB w0 _ (.tmp 8) (.tmp 9) rfl _ [] rfl HOL.out HE0.out _ b rfl HV.out (by have := HL.out; simp; omega) ?_; intro v7 w7 ho7 he7 hg7; rw [List.nil_append] at ho7; obtain ⟨A7, c7, rfl⟩ := ho7.form; have HO7 := hid ho7; have HE7 := hid he7; clear ho7 he7 hg7; obtain ⟨g, hg⟩ : ∃ g, w7.heap.size = g := ⟨_, rfl⟩)
 go_upto_region 2 with fail
 have hr1 : RR (fun j => j < w7.heap.size) (w7.alloc (.cells #[.slice A7 b.length c7, .bool false] 100)) w7.heap.size ⟨b, false⟩ := Rdr.new (RB.ext HO7.out.rb (Ext.refl _)) _ _
 have hrd : RRd (fun j => j < w7.heap.size) (w7.heap.size + 1) w7.heap.size (w7.alloc (.cells #[.slice A7 b.length c7, .bool false] 100)) ⟨b, false⟩ := ⟨hr1, by omega, fun b hb => by omega⟩
 have HX1 := hid ((HX0.out.trans HE7.out).alloc (.cells #[.slice A7 b.length c7, .bool false] 100))
 have HG1 := hid (show r < w7.heap.size from (HR0.out.ext HE7.out).lt)
 have HR1 := hid ((HR0.out.ext HE7.out).ext ((Ext.refl w7).alloc (.cells #[.slice A7 b.length c7, .bool false] 100)))
 rw [hg] at hrd HG1
 try rw [hg]
 have HRD := hid hrd
 clear hr1 hrd
 obtain ⟨K, hK⟩ : ∃ K : Nat → Prop, K = fun j => j < g := ⟨_, rfl⟩
 rw [← hK] at HRD
 clear hK
 have HGW := hid hg
 clear hg
 generalize w7.alloc (.cells #[.slice A7 b.length c7, .bool false] 100) = w1 at *
 clear HO7 HE7 HE0 HOL HV HX0 HR0
 have HB2 := hid (HN.out K g w1 HRD.out.nr)
 go_wp2_with fail
 refine HB2.out.mono ?_
 rintro e w2 ⟨rfl, hr2, he2⟩
 have hx2 : ExtQ (fun k => k = g) w1 w2 := ExtQ.extG he2 rfl
 have HRD2 := hid (HRD.out.num hr2)
 have HX2 := hid (HX1.out.andQ hx2 (fun k hk => by have h1 := HR.out; have h2 := HG1.out; omega))
 have HR2 := hid (HR1.out.extQ hx2 (fun (e : r = g) => by have h2 := HG1.out; omega))
 have HS2 := hid (show g < w2.heap.size from HRD2.out.nr.lt)
 clear hr2 he2 hx2 HB2
 by_cases h32 : (n : Int) > 32
 · have HE1 := hid (show gres res = ([], 0) ∧ res.2 = false from by rw [HP.out, if_pos (by omega)]; exact ⟨rfl, rfl⟩)
   obtain ⟨hbw, hxw, -⟩ := GB.out HX2.out HR2.out HR.out.symm (.slice none 0 0) 0
   have HBW := hid hbw
   have HXW := hid hxw
   have k0 : w2.cell? ⟨r, 0, none⟩ = some (.slice none 0 0) := HR2.out.cell 0
   have k1 : w2.cell? ⟨r, 1, none⟩ = some (.int .i64 0) := HR2.out.cell 1
   have j0 : w2.frozen? ⟨r, 0, none⟩ = false := HR2.out.frozen 0
   have j1 : w2.frozen? ⟨r, 1, none⟩ = false := HR2.out.frozen 1
   clear hbw hxw
   go_wp2
   generalize (w2.setCell ⟨r, 0, none⟩ (.slice none 0 0)).setCell ⟨r, 1, none⟩ (.int .i64 0) = wz at *
   have y0 : wz.cell? ⟨r, 0, none⟩ = some (.slice none 0 0) := HBW.out.cell 0
   have y1 : wz.cell? ⟨r, 1, none⟩ = some (.int .i64 0) := HBW.out.cell 1
   exact bodyPost_ret (v := .tuple #[gAg (.slice none 0 0) 0, .bool false]) (by simp [results, Tryz.results63, go_sem, y0, y1]) rfl
    ⟨_, by rw [HE1.out.1, HE1.out.2], by intro W _; rw [HE1.out.1]; exact NodesR.nil _ _, HXW.out⟩
 · have hn32 : n ≤ 32 := by omega
   have HN32 := hid hn32
   have hP := HP.out
   rw [if_neg (show ¬ 32 < n by omega)] at hP
   have HW := hid hP
   clear HP hP
   have HFL := hid (fun s => nodeR_len 1 s)
   have hil := itrR_len (fun s => nodeR_len 1 s) n s1
   obtain ⟨RI, hri⟩ : ∃ RI, itrR (nodeR 1) n s1 = RI := ⟨_, rfl⟩
   rw [hri] at HW hil
   have HRI := hid hri
   clear hri
   obtain ⟨s3, L⟩ := RI
   dsimp only at HW hil
   have HN3 := hid (fun (w : World) (h : RR K w g s3) => rnum_any g s3 w h (by have := HL1.out; omega))
   have HN4 := hid (show ∀ s : Num.St, True from fun _ => trivial)
   clear HN4 hil HN
   generalize Num.numP s3 = t at *
   obtain ⟨s4, out⟩ := t
   dsimp only at HW HN3
   have hal := (Ext.refl w2).alloc (gCs (.slice none 0 0) 0)
   have HQ3 := hid (show GB K (g + 1) r w2.heap.size g w (w2.alloc (gCs (.slice none 0 0) 0)) s1 (.slice none 0 0) 0 from ⟨Blk.new _ _ _, HR2.out.ext hal, HRD2.out.ext hal, HX2.out.trans hal, HR.out.symm, HG1.out, Nat.lt_succ_self _, HS2.out⟩)
   clear hal
   go_upto_region 6 with fail
   generalize w2.heap.size = q at *
   generalize w2.alloc (gCs (.slice none 0 0) 0) = w3 at *
   have HSZ := hid (show q < w3.heap.size from HQ3.out.bq.lt)
   have HGQ := hid (show r < g ∧ g < q from ⟨HG1.out, HS2.out⟩)
   clear HX2 HR2 HRD2 HX1 HR1 HRD HGW HG1 HS2
   go_wp2
   go_loopw [7] (fun iv wr => ∃ (i m : Nat) (s' : Num.St) (l : List Nd), iv = .int .i64 (i : Int) ∧ l.length = i ∧ i + m = n ∧ itrR (nodeR 1) n s1 = ((itrR (nodeR 1) m s').1, l ++ (itrR (nodeR 1) m s').2) ∧ s'.l.length ≤ 1000000 ∧
    ∃ sl, OS (fun k => k ≤ q) 112 6 w3.heap.size (NdQ (NodesR 1)) wr sl l ∧ GB K (g + 1) r q g w wr s' sl 0 ∧ w3.heap.size ≤ wr.heap.size) (fun iv _ => n - (intOf iv).toNat)
   case atStart => exact ⟨0, n, s1, [], rfl, rfl, by simp, by simp, HL1.out, _, OS.nil _ _ _ _ _ _, HQ3.out, Nat.le_refl _⟩
   case round =>
    obtain ⟨i, m, s', l, rfl, hil, him, hit, hll, sl, hos, hq, hz⟩ := hrel
    have HIM := hid him
    have HIT := hid hit
    have HLL := hid hll
    have HOS := hid hos
    have HQ := hid hq
    have HZ := hid hz
    have HIL := hid hil
    obtain ⟨AB, cB, hvo⟩ := hos.form
    rw [hil] at hvo
    obtain ⟨c1, f1⟩ := hq.rd.at_
    obtain ⟨cc, hcc⟩ : ∃ cc, cc = (decide (i < n) && !s'.bad) := ⟨_, rfl⟩
    have HCC := hid hcc
    clear him hit hll hos hq hz hcc hil
    go_upto_region 7 with fail
    go_cut [28] (fun s28 wx => s28 = .bool cc ∧ wx = wr)
    case first =>
     by_cases hk : i < n
     · have q1 : (i : Int) < (n : Int) := by omega
       have HK := hid hk
       clear hk hvo
       cases hb : s'.bad with
       | true =>
        rw [hb] at c1
        have HB := hid hb
        clear hb
        go_wp2
        go_meet
        exact ⟨by rw [HCC.out, HB.out, Bool.not_true, Bool.and_false], rfl⟩
       | false =>
        rw [hb] at c1
        have HB := hid hb
        clear hb
        go_wp2
        go_meet
        exact ⟨by rw [HCC.out, HB.out, decide_eq_true HK.out]; rfl, rfl⟩
     · have q1 : ¬ (i : Int) < (n : Int) := by omega
       have HK := hid hk
       clear hk hvo
       go_wp2
       go_meet
       exact ⟨by rw [HCC.out, decide_eq_false HK.out]; rfl, rfl⟩
    case rest =>
    obtain ⟨rfl, hwx⟩ := hcut
    subst hwx
    rename World => wr
    subst hvo
    have HOW := hid (show (Value.slice AB i cB).ownBlock ≠ some q ∧ (Value.slice AB i cB).ownBlock ≠ some r ∧ (Value.slice AB i cB).ownBlock ≠ some g from by
     have h1 := HSZ.out
     have h2 := HGQ.out
     exact ⟨fun e => by have := (HOS.out.lt e).1; omega, fun e => by have := (HOS.out.lt e).1; omega, fun e => by have := (HOS.out.lt e).1; omega⟩)
    cases cc with
    | true =>
     have HB := hid (show i < n ∧ s'.bad = false from by have := HCC.out.symm; simpa using this)
     obtain ⟨m, rfl⟩ : ∃ m', m = m' + 1 := ⟨m - 1, by have h1 := HIM.out; have h2 := HB.out.1; omega⟩
     have hgo := itrR_go (f := nodeR 1) HB.out.2 m
     rw [hgo] at HIT
     have HNU := hid (fun w (h : RRd K (g + 1) g w s') (hw : g + 1 ≤ w.heap.size) => rnode_any 1 (Nat.le_refl _) K (g + 1) g s' w h hw HLL.out)
     rw [show decide (0 < 1) = true from rfl] at HNU
     have HLN := hid (Nat.le_trans (HFL.out s') HLL.out)
     have hi32 : i ≤ 32 := by have h1 := HB.out.1; have h2 := HN32.out; omega
     clear hgo
     generalize hnr : nodeR 1 s' = t at HNU HLN HIT
     clear hnr
     obtain ⟨sn, nd⟩ := t
     obtain ⟨xop, xins, xkind, xfa, xa, xbody⟩ := nd
     simp only [Nd.op, Nd.kind, Nd.fa, Nd.a, Nd.ins, Nd.body] at HNU
     dsimp only at HLN
     replace HIT := hid (show itrR (nodeR 1) n s1 = ((itrR (nodeR 1) m sn).1, (l ++ [Nd.mk xop xins xkind xfa xa xbody]) ++ (itrR (nodeR 1) m sn).2) from by rw [HIT.out]; simp)
     have HMK := hid (fun (w' : World) (hw : wr.heap.size ≤ w'.heap.size) (W : World) (hW : ExtQ (MayK (fun k => k ≤ q) (.slice AB i cB) w') w' W) => show ExtQ (fun k => k < wr.heap.size) w' W from
      hW.mono' fun x hx hq => by
       rcases hq with hq | hq | hq
       · have h1 := HSZ.out; have h2 := HZ.out; have hq : x ≤ q := hq; show x < wr.heap.size; omega
       · exact (HOS.out.lt hq).2
       · omega)
     clear c1 f1
     go_upto_region 9 with fail
     refine wp_region_tailZ 7 [34, 36] [35] Ext (ExtQ (fun k => k = g ∨ (Value.slice AB i cB).ownBlock = some k)) (fun w' => RRd K (g + 1) g w' s' ∧ OS (fun k => k ≤ q) 112 6 w3.heap.size (NdQ (NodesR 1)) w' (.slice AB i cB) l) (by kernel_rfl) (by kernel_rfl) (by kernel_rfl) (by kernel_rfl) (by kernel_rfl) (by kernel_rfl) (by kernel_rfl) (by rfl) (by rfl) (by kernel_rfl) (by kernel_rfl) (by kernel_rfl) (fun _ _ _ x y => x.trans y) (ExtQ.refl _) (fun _ _ x => ExtQ.of x) Ext.refl (Ext.refl _).drew (fun _ _ x y => ⟨x.1.ext y, x.2.ext y⟩) (⟨HQ.out.rd, HOS.out⟩) ?_
     repeat (first | (refine wpZ_move0 rfl rfl (fun _ => (runsX rfl)) Ext.refl rfl rfl (fun _ => rfl) ?_; apply Exists.intro; refine ⟨?_, ?_⟩; · (go_simp; rfl)) | (refine wpZ_val rfl rfl (fun _ => (runsX rfl)) Ext.refl rfl ?_; apply Exists.intro; refine ⟨?_, ?_⟩; · (intro c a w' hR; (try (intro h1; try have e1 : _ = _ := h1)); (try (intro h2; try have e2 : _ = _ := h2)); (try (intro h3; try have e3 : _ = _ := h3)); go_simp; rfl)))
     refine wpZ_val rfl rfl (fun _ => (runsX rfl)) Ext.refl rfl ?_; apply Exists.intro; refine ⟨?_, ?_⟩
     · intro c a w' hR h1
       have e1 : _ = _ := h1
       have hl1 := (HQ.out.bq.extQ hR (notQ (by have h2 := HGQ.out; omega) HOW.out.1)).cell 0
       go_simp
       rfl
     repeat (first | (refine wpZ_move0 rfl rfl (fun _ => (runsX rfl)) Ext.refl rfl rfl (fun _ => rfl) ?_; apply Exists.intro; refine ⟨?_, ?_⟩; · (go_simp; rfl)) | (refine wpZ_val rfl rfl (fun _ => (runsX rfl)) Ext.refl rfl ?_; apply Exists.intro; refine ⟨?_, ?_⟩; · (intro c a w' hR; (try (intro h1; try have e1 : _ = _ := h1)); (try (intro h2; try have e2 : _ = _ := h2)); (try (intro h3; try have e3 : _ = _ := h3)); go_simp; rfl)))
     refine wpZ_eff (fun c v w9 => 1 ≤ c ∧ (c ≤ 1 → FNd 1 wr.heap.size xop xkind xfa xa xins xbody v w9)) (fun w' => RRd K (g + 1) g w' sn ∧ OS (fun k => k ≤ q) 112 6 w3.heap.size (NdQ (NodesR 1)) w' (.slice AB i cB) l) rfl (runsX rfl) rfl (keptC_at fun v w w2 h k => FNd.ext h k) (fun _ _ x y => ⟨x.1.ext y, x.2.ext y⟩) ?_ ?_
     · intro a w' hR hS h1 K hK
       have e1 : _ = _ := h1
       go_simp
       refine (HNU.out w' hS.1 (by have h1 := HSZ.out; have h2 := HZ.out; have h3 := hR.size; have h4 := HGQ.out; omega)).mono ?_
       rintro e w5 ⟨u3, b3, rfl, hst, hr3, he3⟩
       obtain ⟨A3, c3, rfl⟩ := (hst w5 (ExtQ.refl _ _)).1.form
       obtain ⟨B3, d3, rfl⟩ := (hst w5 (ExtQ.refl _ _)).2.form
       exact hK _ _ (he3.mono fun x hx => .inl hx) ⟨hr3, hS.2.extQ he3 (fun x hx => .inl (by have h2 := HGQ.out; show x ≤ q; omega)) (fun x hx hq => by have h1 := (HOS.out.lt hx).1; have h2 := HSZ.out; have hq : x ≤ q := hq; omega)⟩ ⟨Nat.le_refl _, fun _ => ⟨A3, c3, B3, d3, rfl, fun W hW => hst W (hW.mono fun x hx => by have h3 := hR.size; show x < w'.heap.size; omega)⟩⟩
     refine wpZ_callA (fun c v w => 1 ≤ c ∧ (c ≤ 1 → FNl 1 wr.heap.size xop xkind xfa xa xins xbody v w)) rfl rfl (runsX rfl) rfl (keptC_at fun v w w2 h k => FNl.ext h k) ?_ ?_
     · intro a w' hR hS h1 K hK
       obtain ⟨x, ex, fx⟩ : ∃ x, a.tmps.getD 34 undef = x ∧ (fun v w => 1 ≤ 0 + 1 ∧ (0 + 1 ≤ 1 → FNd 1 wr.heap.size xop xkind xfa xa xins xbody v w)) x w' := ⟨_, rfl, h1⟩
       obtain ⟨A9, c9, B9, e9, hx9, hst9⟩ := (fx.2 (Nat.le_refl _)).ex
       subst hx9
       have q9 : a.tmps[34]?.getD undef = ndAg xop xkind xfa xa (.slice A9 xins.length c9) (.slice B9 xbody.length e9) := by simpa using ex
       go_simp
       exact hK _ _ ((Ext.refl _).alloc _) ⟨Nat.le_refl _, fun _ => ⟨A9, c9, B9, e9, nd_lit2 w' _ xop xkind xfa xa A9 xins.length c9 B9 xbody.length e9, fun W hW => hst9 W ((ExtQ.of ((Ext.refl _).alloc _)).trans hW)⟩⟩
     refine wpZ_eff (fun c v w => 2 ≤ c ∧ (c ≤ 2 → OS (fun k => k ≤ q) 112 6 w3.heap.size (NdQ (NodesR 1)) w v (l ++ [.mk xop xins xkind xfa xa xbody]))) (fun w' => RRd K (g + 1) g w' sn) rfl (runsX rfl) rfl (keptC_at fun v w w2 h k => OS.ext (w := w) (w' := w2) (v := v) h k) (fun _ _ x y => x.ext y) ?_ ?_
     · intro a w' hR hS h1 h2 K hK
       have e1 : _ = _ := h1
       obtain ⟨y, ey, fy⟩ : ∃ x, a.tmps.getD 35 undef = x ∧ (fun v w => 1 ≤ 0 + 1 ∧ (0 + 1 ≤ 1 → FNl 1 wr.heap.size xop xkind xfa xa xins xbody v w)) x w' := ⟨_, rfl, h2⟩
       obtain ⟨A9, c9, B9, e9, hrd, hst9⟩ := (fy.2 (Nat.le_refl _)).ex
       refine wp_appS elemNd w' (.tmp 32) (.tmp 35) rfl w3.heap.size _ _ l e1 hS.2 ey _ (.mk xop xins xkind xfa xa xbody) hrd (nd_one2 _ _ _ _ _ _ _ _ _ _) rfl (fun W hW => ⟨_, _, rfl, (hst9 W (HMK.out w' hR.size W hW)).1, (hst9 W (HMK.out w' hR.size W hW)).2⟩) (by have := HIL.out; omega) (by have := HIL.out; unfold maxLen; omega) (Nat.le_trans HZ.out hR.size) ?_
       intro v' w5 hos3 hg3
       exact hK _ _ (ExtQ.grown hg3 (fun x hx => .inr hx)) (hS.1.extQ (ExtQ.grown hg3 (fun x hx => by have h1 := (HOS.out.lt hx).1; have h2 := HSZ.out; have h4 := HGQ.out; show g + 1 ≤ x; omega))) ⟨Nat.le_refl _, fun _ => hos3⟩
     repeat (first | (refine wpZ_move0 rfl rfl (fun _ => (runsX rfl)) Ext.refl rfl rfl (fun _ => rfl) ?_; apply Exists.intro; refine ⟨?_, ?_⟩; · (go_simp; rfl)) | (refine wpZ_val rfl rfl (fun _ => (runsX rfl)) Ext.refl rfl ?_; apply Exists.intro; refine ⟨?_, ?_⟩; · (intro c a w' hR; (try (intro h1; try have e1 : _ = _ := h1)); (try (intro h2; try have e2 : _ = _ := h2)); (try (intro h3; try have e3 : _ = _ := h3)); go_simp; rfl)))
     refine wpZ_done ?_
     intro w6 hx6 hS6
     iterate 3 (rintro _ rfl)
     rintro v34 h34
     rintro v35 h35
     rintro v36 h36
     rintro _ rfl
     dsimp only [FinV]
     go_simp
     have ho6 := h36.2 (Nat.le_refl _)
     obtain ⟨A6, c6, hv6⟩ := ho6.form
     rw [List.length_append, List.length_singleton, HIL.out] at hv6
     subst hv6
     have HO6 := hid ho6
     have HX6 := hid (show ExtQ (fun k => k = g ∨ (Value.slice AB i cB).ownBlock = some k) wr w6 from hx6)
     have HQ6 := hid (show GB K (g + 1) r q g w w6 sn (.slice AB i cB) 0 from
      ⟨HQ.out.bq.extQ HX6.out (notQ (by have h2 := HGQ.out; omega) HOW.out.1), HQ.out.br.extQ HX6.out (notQ (by have h2 := HGQ.out; omega) HOW.out.2.1), hS6,
       HQ.out.ex.andQ HX6.out (fun x hx => hx.elim (fun e => by have h2 := HGQ.out; have h3 := HR.out; omega) fun h => by have h1 := (HOS.out.lt h).1; have h2 := HSZ.out; have h4 := HGQ.out; have h3 := HR.out; omega), HQ.out.er, HQ.out.rg, HQ.out.gb, HQ.out.bl⟩)
     have HZ6 := hid (Nat.le_trans HZ.out HX6.out.size)
     clear h34 h35 h36 ho6 hS6 hx6
     obtain ⟨b0, b1, f0, f1⟩ := HQ6.out.at_
     have HQ7 := hid (HQ6.out.set0 (.slice A6 (i + 1) c6))
     have hst := HQ6.out.setq (v := .slice A6 (i + 1) c6) 0
     have HO7 := hid (HO6.out.extQ hst (fun x (hx : x = q) => .inl (by show x ≤ q; omega)) (fun x hx hq => by have h1 := (HO6.out.lt hx).1; have h2 := HSZ.out; have hq : x ≤ q := hq; omega))
     have HZ7 := hid (show w3.heap.size ≤ (w6.setCell ⟨q, 0, none⟩ (.slice A6 (i + 1) c6)).heap.size from Nat.le_trans HZ6.out hst.size)
     clear hst
     obtain ⟨mm, hm⟩ : ∃ mm, mm = i + 1 := ⟨_, rfl⟩
     rw [← hm] at HQ7 HO7 HZ7 ⊢
     have HM := hid hm
     clear hm
     simp only [thenTail, List.drop_succ_cons, List.drop_zero]
     go_wp2
     exact ⟨⟨mm, m, sn, l ++ [.mk xop xins xkind xfa xa xbody], by have h1 := HM.out; subst h1; go_num, by rw [List.length_append, List.length_singleton, HIL.out, HM.out], by have h2 := HM.out; have h3 := HIM.out; omega, HIT.out, HLN.out, _, HO7.out, HQ7.out, HZ7.out⟩, by have h1 := HM.out; have h2 := HB.out; simp [intOf]; omega⟩
    | false =>
     have HE := hid (show s' = s3 ∧ l = L from by
      have h := HCC.out.symm
      have h2 := HIT.out
      rw [HRI.out] at h2
      have h3 : itrR (nodeR 1) m s' = (s', []) := by
       cases hb : s'.bad with
       | true => exact itrR_stop hb m
       | false =>
        rw [hb] at h
        have h1 : ¬ i < n := by simpa using h
        have h2 := HIM.out
        obtain rfl : m = 0 := by omega
        rfl
      rw [h3] at h2
      simp only [List.append_nil, Prod.mk.injEq] at h2
      exact ⟨h2.1.symm, h2.2.symm⟩)
     have he1 := HE.out.1
     have he2 := HE.out.2
     clear HE HIT HRI HCC HIM c1 f1
     subst he1
     subst he2
     go_upto_region 10 with fail
     have HB3 := hid (HN3.out _ HQ.out.rd.nr)
     go_wp2_with fail
     refine HB3.out.mono ?_
     rintro e w5 ⟨rfl, hr5, he5⟩
     have HQ5 := hid (HQ.out.num hr5 he5)
     have HO5 := hid (HOS.out.extQ (ExtQ.extG (Q := fun k => k = g) he5 rfl) (fun x (hx : x = g) => .inl (by have h2 := HGQ.out; show x ≤ q; omega)) (fun x hx hq => by have h1 := (HOS.out.lt hx).1; have h2 := HSZ.out; have hq : x ≤ q := hq; omega))
     clear hr5 he5 HB3
     obtain ⟨b0, b1, f0, f1⟩ := HQ5.out.at_
     have HQ6 := hid (HQ5.out.set1 (out : Nat))
     have HO6 := hid (HO5.out.extQ (HQ5.out.setq (v := .int .i64 (out : Nat)) 1) (fun x (hx : x = q) => .inl (by show x ≤ q; omega)) (fun x hx hq => by have h1 := (HO5.out.lt hx).1; have h2 := HSZ.out; have hq : x ≤ q := hq; omega))
     go_upto_region 11 with fail
     clear b0 b1 f0 f1
     generalize w5.setCell ⟨q, 1, none⟩ (.int .i64 (out : Nat)) = w6 at *
     clear HQ5 HO5 HQ HOS
     obtain ⟨ok, hok⟩ : ∃ ok, ok = (!s4.bad && (s4.l.isEmpty && gOk (l, (out : Int)))) := ⟨_, rfl⟩
     rw [← hok] at HW
     have HOK := hid hok
     clear hok
     have HCK := hid (rCheck_any 2 (.slice AB i cB) l (out : Nat) w6 (NodesR.of_os1 HO6.out))
     obtain ⟨c1, f1⟩ := HQ6.out.rd.at_
     obtain ⟨AR, cR, -, c0, -, -, -⟩ := HQ6.out.rd.nr.open_
     obtain ⟨b0, b1, f0, f2⟩ := HQ6.out.at_
     obtain ⟨nl, hnl⟩ : ∃ nl, nl = s4.l.length := ⟨_, rfl⟩
     rw [← hnl] at c0
     have HEM := hid (show s4.l.isEmpty = decide (nl = 0) from by rw [hnl]; cases s4.l <;> simp)
     clear hnl
     go_cut [57] (fun s57 wx => s57 = .bool (!ok) ∧ Ext w6 wx)
     case first =>
      cases hb : s4.bad with
      | true =>
       rw [hb] at c1
       have HB := hid (show ok = false from by rw [HOK.out, hb]; rfl)
       clear hb
       go_wp2
       go_meet
       exact ⟨by rw [HB.out]; rfl, Ext.refl _⟩
      | false =>
       rw [hb] at c1
       have hok := HOK.out
       rw [hb, HEM.out] at hok
       have HOK2 := hid hok
       clear hok
       by_cases he : nl = 0
       · have q1 : ¬ (nl : Int) > 0 := by omega
         cases hg : gOk (l, (out : Int)) with
         | true =>
          rw [hg] at HCK
          have HB := hid (show ok = true from by rw [HOK2.out, decide_eq_true he, hg]; rfl)
          clear hb hg he
          go_wp2_with fail
          refine HCK.out.mono ?_
          rintro e w7 ⟨rfl, he7⟩
          have HE7 := hid he7
          clear he7
          go_wp2
          go_meet
          exact ⟨by rw [HB.out]; rfl, HE7.out⟩
         | false =>
          rw [hg] at HCK
          have HB := hid (show ok = false from by rw [HOK2.out, decide_eq_true he, hg]; rfl)
          clear hb hg he
          go_wp2_with fail
          refine HCK.out.mono ?_
          rintro e w7 ⟨rfl, he7⟩
          have HE7 := hid he7
          clear he7
          go_wp2
          go_meet
          exact ⟨by rw [HB.out]; rfl, HE7.out⟩
       · have q1 : (nl : Int) > 0 := by omega
         have HB := hid (show ok = false from by rw [HOK2.out, decide_eq_false he]; rfl)
         clear hb he
         go_wp2
         go_meet
         exact ⟨by rw [HB.out]; rfl, Ext.refl _⟩
     case rest =>
     obtain ⟨rfl, hxw⟩ := hcut
     rename World => w7
     have HR7 := hid (HQ6.out.br.ext hxw)
     have HX7 := hid (HQ6.out.ex.trans hxw)
     have HG7 := hid (HQ6.out.bq.ext hxw)
     have HO7 := hid (HO6.out.ext hxw)
     clear hxw c0 c1 f0 f1 f2 b0 b1
     have k0 : w7.cell? ⟨r, 0, none⟩ = some (.slice none 0 0) := HR7.out.cell 0
     have k1 : w7.cell? ⟨r, 1, none⟩ = some (.int .i64 0) := HR7.out.cell 1
     have j0 : w7.frozen? ⟨r, 0, none⟩ = false := HR7.out.frozen 0
     have j1 : w7.frozen? ⟨r, 1, none⟩ = false := HR7.out.frozen 1
     cases ok with
     | false =>
      have HE1 := hid (show gres res = ([], 0) ∧ res.2 = false from by rw [HW.out]; exact ⟨rfl, rfl⟩)
      obtain ⟨hbw, hxw, -⟩ := GB.out HX7.out HR7.out HR.out.symm (.slice none 0 0) 0
      have HBW := hid hbw
      have HXW := hid hxw
      clear hbw hxw
      go_wp2
      generalize (w7.setCell ⟨r, 0, none⟩ (.slice none 0 0)).setCell ⟨r, 1, none⟩ (.int .i64 0) = wz at *
      have y0 : wz.cell? ⟨r, 0, none⟩ = some (.slice none 0 0) := HBW.out.cell 0
      have y1 : wz.cell? ⟨r, 1, none⟩ = some (.int .i64 0) := HBW.out.cell 1
      exact bodyPost_ret (v := .tuple #[gAg (.slice none 0 0) 0, .bool false]) (by simp [results, Tryz.results63, go_sem, y0, y1]) rfl
       ⟨_, by rw [HE1.out.1, HE1.out.2], by intro W _; rw [HE1.out.1]; exact NodesR.nil _ _, HXW.out⟩
     | true =>
      have HE1 := hid (show gres res = (l, (out : Int)) ∧ res.2 = true from by rw [HW.out]; exact ⟨rfl, rfl⟩)
      obtain ⟨hbw, hxw, hqw⟩ := GB.out HX7.out HR7.out HR.out.symm (.slice AB i cB) (out : Nat)
      have HBW := hid hbw
      have HXW := hid hxw
      have HVW := hid (show ∀ W, ExtQ (fun k => k < w.heap.size) ((w7.setCell ⟨r, 0, none⟩ (.slice AB i cB)).setCell ⟨r, 1, none⟩ (.int .i64 (out : Nat))) W → NodesR 2 W (.slice AB i cB) l from fun W hW =>
       NodesR.of_os1 ((HO7.out.extQ hqw (fun x (hx : x = r) => .inl (by have h2 := HGQ.out; show x ≤ q; omega)) (fun x hx hq => by have h1 := (HO7.out.lt hx).1; have h2 := HSZ.out; have hq : x ≤ q := hq; omega)).extQ hW (fun x (hx : x < w.heap.size) => .inl (by have h1 := HR.out; have h2 := HGQ.out; show x ≤ q; omega)) (fun x hx hq => by have h1 := (HO7.out.lt hx).1; have h2 := HSZ.out; have hq : x ≤ q := hq; omega)))
      have b0 : w7.cell? ⟨q, 0, none⟩ = some (.slice AB i cB) := HG7.out.cell 0
      have b1 : w7.cell? ⟨q, 1, none⟩ = some (.int .i64 (out : Nat)) := HG7.out.cell 1
      clear hbw hxw hqw
      go_wp2
      generalize (w7.setCell ⟨r, 0, none⟩ (.slice AB i cB)).setCell ⟨r, 1, none⟩ (.int .i64 (out : Nat)) = wz at *
      have y0 : wz.cell? ⟨r, 0, none⟩ = some (.slice AB i cB) := HBW.out.cell 0
      have y1 : wz.cell? ⟨r, 1, none⟩ = some (.int .i64 (out : Nat)) := HBW.out.cell 1
      exact bodyPost_ret (v := .tuple #[gAg (.slice AB i cB) (out : Nat), .bool true]) (by simp [results, Tryz.results63, go_sem, y0, y1]) rfl
       ⟨_, by rw [HE1.out.1, HE1.out.2], by rw [HE1.out.1]; exact HVW.out, HXW.out⟩
end Go.Proofs.YtpmpjjhchkoboaaGreatDoor
