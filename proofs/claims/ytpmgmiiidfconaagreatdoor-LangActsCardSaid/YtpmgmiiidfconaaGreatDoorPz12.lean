/-
  ScrAct, packed: what the claim needs of them.
-/
import Derived.Deep.DeepCutAuto
import Derived.Test.YtpmgmiiidfconaaGreatDoorPz11
namespace Go.Proofs.YtpmgmiiidfconaaGreatDoor
open Go.RowKit Go.Ox Go.Ox.Gr Go.Ox.Sc
set_option linter.unusedVariables false
set_option linter.unusedSimpArgs false
attribute [local irreducible] RE OE
def WI (m : Int) (v : Value) (w : World) : Prop := ∃ p, v = wiV p ∧ Blk w p 3 #[.int .i64 m]
theorem WI.ext {m : Int} {v : Value} {w w' : World} (h : WI m v w) (he : Ext w w') : WI m v w' := by
  obtain ⟨p, h1, h2⟩ := h
  exact ⟨p, h1, h2.ext he⟩
abbrev actAg (k n a b t : Int) (u : Value) : Value := .agg #[.int .i64 k, .int .i64 n, .int .i64 a, .int .i64 b, .int .i64 t, u]
abbrev actCs (k n a b t : Int) (u : Value) : Obj := .cells #[.int .i64 k, .int .i64 n, .int .i64 a, .int .i64 b, .int .i64 t, u] 24
set_option maxRecDepth 100000 in
set_option maxHeartbeats 1000000 in
theorem act_0 (k n a b t : Int) (u : Value) (ks : List Int) (w : World) (hu : RE w u ks) (hl : ks.length ≤ 1000000) (hk : ¬ (1 ≤ k ∧ k ≤ 5))  :
    Calls Tryz.prog 52 #[actAg k n a b t u] w fun e w' => e = .returned (.bool false) ∧ Ext w w' := by
  have HX := Lib.hid ((Ext.refl w).alloc (actCs k n a b t u))
  have HB := Lib.hid (Bx6.new w 24 (.int .i64 k) (.int .i64 n) (.int .i64 a) (.int .i64 b) (.int .i64 t) u)
  have HU := Lib.hid (RE.ext hu HX.out)
  obtain ⟨A, c, rfl⟩ := hu.form
  clear hu hl
  have HWI := Lib.hid (fun m (W : World) => swithin_any m W)
  go_enter Tryz.func52, Tryz.ntmps52
  go_upto_region 1 with fail
  generalize w.heap.size = p at *
  generalize w.alloc (actCs k n a b t (.slice A ks.length c)) = w0 at *
  obtain ⟨c0, c1, c2, c3, c4, c5⟩ := HB.out.at_
  go_cut [3] (fun s3 wx => s3 = .bool false ∧ wx = w0)
  case first =>
    clear HU HX HB HWI
    by_cases h1 : 1 ≤ k
    · have h5 : ¬ k ≤ 5 := fun h => hk ⟨h1, h⟩
      clear hk
      go_wp2
      all_goals go_meet
      all_goals refine ⟨rfl, by first | trivial | rfl⟩
    · clear hk
      go_wp2
      all_goals go_meet
      all_goals refine ⟨rfl, by first | trivial | rfl⟩
  case rest =>
  obtain ⟨rfl, hwx⟩ := hcut
  subst hwx
  rename World => w1
  go_upto_region 3 with (refine (HWI.out 65536 _).mono ?_; rintro e w2 ⟨p1, rfl, hb1, he1⟩)
  replace HB := Lib.hid (HB.out.ext he1)
  replace HX := Lib.hid (HX.out.trans he1)
  replace HU := Lib.hid (RE.ext HU.out he1)
  have hp1 := hb1.cell 0
  clear c0 c1 c2 c3 c4 c5 he1
  obtain ⟨c0, c1, c2, c3, c4, c5⟩ := HB.out.at_
  refine yx ?_
  refine ya ?_
  refine wpY_done ?_
  intro wz hx hS
  iterate 1 (rintro _ rfl)
  iterate 1 (rintro _ rfl)
  iterate 1 (rintro _ rfl)
  iterate 1 (rintro _ rfl)
  iterate 1 (rintro _ rfl)
  iterate 1 (rintro _ rfl)
  iterate 1 (rintro _ rfl)
  iterate 1 (rintro _ rfl)
  iterate 1 (rintro _ rfl)
  iterate 1 (rintro _ rfl)
  iterate 1 (rintro _ rfl)
  iterate 1 (rintro _ rfl)
  iterate 1 (rintro _ rfl)
  iterate 1 (rintro _ rfl)
  iterate 1 (rintro _ rfl)
  iterate 1 (rintro _ rfl)
  iterate 1 (rintro _ rfl)
  iterate 1 (rintro _ rfl)
  iterate 1 (rintro _ rfl)
  iterate 1 (rintro _ rfl)
  iterate 1 (rintro _ rfl)
  iterate 1 (rintro _ rfl)
  iterate 1 (rintro _ rfl)
  iterate 1 (rintro _ rfl)
  iterate 1 (rintro _ rfl)
  iterate 1 (rintro _ rfl)
  iterate 1 (rintro _ rfl)
  iterate 1 (rintro _ rfl)
  iterate 1 (rintro _ rfl)
  iterate 1 (rintro _ rfl)
  iterate 1 (rintro _ rfl)
  iterate 1 (rintro _ rfl)
  iterate 1 (rintro _ rfl)
  iterate 1 (rintro _ rfl)
  iterate 1 (rintro _ rfl)
  iterate 1 (rintro _ rfl)
  iterate 1 (rintro _ rfl)
  iterate 1 (rintro _ rfl)
  dsimp only [FinV]
  go_simp
  go_wp2
  go_ret
  exact ⟨rfl, HX.out.trans hx⟩
set_option maxRecDepth 100000 in
set_option maxHeartbeats 1000000 in
theorem act_1 (k n a b t : Int) (u : Value) (ks : List Int) (w : World) (hu : RE w u ks) (hl : ks.length ≤ 1000000) (hk1 : 1 ≤ k) (hk5 : k ≤ 5) (hn : inR n 65536 = false) :
    Calls Tryz.prog 52 #[actAg k n a b t u] w fun e w' => e = .returned (.bool false) ∧ Ext w w' := by
  have HX := Lib.hid ((Ext.refl w).alloc (actCs k n a b t u))
  have HB := Lib.hid (Bx6.new w 24 (.int .i64 k) (.int .i64 n) (.int .i64 a) (.int .i64 b) (.int .i64 t) u)
  have HU := Lib.hid (RE.ext hu HX.out)
  have HN := Lib.hid (fun (W : World) p (hc : W.cell? ⟨p, 0, none⟩ = some (.int .i64 65536)) => within1_any n 65536 p W hc)
  rw [hn] at HN
  clear hn
  obtain ⟨A, c, rfl⟩ := hu.form
  clear hu hl
  have HWI := Lib.hid (fun m (W : World) => swithin_any m W)
  go_enter Tryz.func52, Tryz.ntmps52
  go_upto_region 1 with fail
  generalize w.heap.size = p at *
  generalize w.alloc (actCs k n a b t (.slice A ks.length c)) = w0 at *
  obtain ⟨c0, c1, c2, c3, c4, c5⟩ := HB.out.at_
  go_upto_region 3 with (refine (HWI.out 65536 _).mono ?_; rintro e w2 ⟨p1, rfl, hb1, he1⟩)
  replace HB := Lib.hid (HB.out.ext he1)
  replace HX := Lib.hid (HX.out.trans he1)
  replace HU := Lib.hid (RE.ext HU.out he1)
  have hp1 := hb1.cell 0
  clear c0 c1 c2 c3 c4 c5 he1
  obtain ⟨c0, c1, c2, c3, c4, c5⟩ := HB.out.at_
  refine yx ?_
  refine ya ?_
  refine yl6 c0 c1 c2 c3 c4 c5 ?_
  refine yc2 (.bool false) (fun w' hR => HN.out w' p1 (hR.cell hp1)) ?_
  refine ya ?_
  refine wpY_done ?_
  intro wz hx hS
  iterate 1 (rintro _ rfl)
  iterate 1 (rintro _ rfl)
  iterate 1 (rintro _ rfl)
  iterate 1 (rintro _ rfl)
  iterate 1 (rintro _ rfl)
  iterate 1 (rintro _ rfl)
  iterate 1 (rintro _ rfl)
  iterate 1 (rintro _ rfl)
  iterate 1 (rintro _ rfl)
  iterate 1 (rintro _ rfl)
  iterate 1 (rintro _ rfl)
  iterate 1 (rintro _ rfl)
  iterate 1 (rintro _ rfl)
  iterate 1 (rintro _ rfl)
  iterate 1 (rintro _ rfl)
  iterate 1 (rintro _ rfl)
  iterate 1 (rintro _ rfl)
  iterate 1 (rintro _ rfl)
  iterate 1 (rintro _ rfl)
  iterate 1 (rintro _ rfl)
  iterate 1 (rintro _ rfl)
  iterate 1 (rintro _ rfl)
  iterate 1 (rintro _ rfl)
  iterate 1 (rintro _ rfl)
  iterate 1 (rintro _ rfl)
  iterate 1 (rintro _ rfl)
  iterate 1 (rintro _ rfl)
  iterate 1 (rintro _ rfl)
  iterate 1 (rintro _ rfl)
  iterate 1 (rintro _ rfl)
  iterate 1 (rintro _ rfl)
  iterate 1 (rintro _ rfl)
  iterate 1 (rintro _ rfl)
  iterate 1 (rintro _ rfl)
  iterate 1 (rintro _ rfl)
  iterate 1 (rintro _ rfl)
  iterate 1 (rintro _ rfl)
  iterate 1 (rintro _ rfl)
  dsimp only [FinV]
  go_simp
  go_wp2
  go_ret
  exact ⟨rfl, HX.out.trans hx⟩
set_option maxRecDepth 100000 in
set_option maxHeartbeats 1000000 in
theorem act_2 (k n a b t : Int) (u : Value) (ks : List Int) (w : World) (hu : RE w u ks) (hl : ks.length ≤ 1000000) (hk1 : 1 ≤ k) (hk5 : k ≤ 5) (hn : inR n 65536 = true) (ha : inR a 65536 = false) :
    Calls Tryz.prog 52 #[actAg k n a b t u] w fun e w' => e = .returned (.bool false) ∧ Ext w w' := by
  have HX := Lib.hid ((Ext.refl w).alloc (actCs k n a b t u))
  have HB := Lib.hid (Bx6.new w 24 (.int .i64 k) (.int .i64 n) (.int .i64 a) (.int .i64 b) (.int .i64 t) u)
  have HU := Lib.hid (RE.ext hu HX.out)
  have HN := Lib.hid (fun (W : World) p (hc : W.cell? ⟨p, 0, none⟩ = some (.int .i64 65536)) => within1_any n 65536 p W hc)
  rw [hn] at HN
  clear hn
  have HA := Lib.hid (fun (W : World) p (hc : W.cell? ⟨p, 0, none⟩ = some (.int .i64 65536)) => within1_any a 65536 p W hc)
  rw [ha] at HA
  clear ha
  obtain ⟨A, c, rfl⟩ := hu.form
  clear hu hl
  have HWI := Lib.hid (fun m (W : World) => swithin_any m W)
  go_enter Tryz.func52, Tryz.ntmps52
  go_upto_region 1 with fail
  generalize w.heap.size = p at *
  generalize w.alloc (actCs k n a b t (.slice A ks.length c)) = w0 at *
  obtain ⟨c0, c1, c2, c3, c4, c5⟩ := HB.out.at_
  go_upto_region 3 with (refine (HWI.out 65536 _).mono ?_; rintro e w2 ⟨p1, rfl, hb1, he1⟩)
  replace HB := Lib.hid (HB.out.ext he1)
  replace HX := Lib.hid (HX.out.trans he1)
  replace HU := Lib.hid (RE.ext HU.out he1)
  have hp1 := hb1.cell 0
  clear c0 c1 c2 c3 c4 c5 he1
  obtain ⟨c0, c1, c2, c3, c4, c5⟩ := HB.out.at_
  refine yx ?_
  refine ya ?_
  refine yl6 c0 c1 c2 c3 c4 c5 ?_
  refine yc2 (.bool true) (fun w' hR => HN.out w' p1 (hR.cell hp1)) ?_
  refine ya ?_
  refine yl6 c0 c1 c2 c3 c4 c5 ?_
  refine yc2 (.bool false) (fun w' hR => HA.out w' p1 (hR.cell hp1)) ?_
  refine ya ?_
  refine wpY_done ?_
  intro wz hx hS
  iterate 1 (rintro _ rfl)
  iterate 1 (rintro _ rfl)
  iterate 1 (rintro _ rfl)
  iterate 1 (rintro _ rfl)
  iterate 1 (rintro _ rfl)
  iterate 1 (rintro _ rfl)
  iterate 1 (rintro _ rfl)
  iterate 1 (rintro _ rfl)
  iterate 1 (rintro _ rfl)
  iterate 1 (rintro _ rfl)
  iterate 1 (rintro _ rfl)
  iterate 1 (rintro _ rfl)
  iterate 1 (rintro _ rfl)
  iterate 1 (rintro _ rfl)
  iterate 1 (rintro _ rfl)
  iterate 1 (rintro _ rfl)
  iterate 1 (rintro _ rfl)
  iterate 1 (rintro _ rfl)
  iterate 1 (rintro _ rfl)
  iterate 1 (rintro _ rfl)
  iterate 1 (rintro _ rfl)
  iterate 1 (rintro _ rfl)
  iterate 1 (rintro _ rfl)
  iterate 1 (rintro _ rfl)
  iterate 1 (rintro _ rfl)
  iterate 1 (rintro _ rfl)
  iterate 1 (rintro _ rfl)
  iterate 1 (rintro _ rfl)
  iterate 1 (rintro _ rfl)
  iterate 1 (rintro _ rfl)
  iterate 1 (rintro _ rfl)
  iterate 1 (rintro _ rfl)
  iterate 1 (rintro _ rfl)
  iterate 1 (rintro _ rfl)
  iterate 1 (rintro _ rfl)
  iterate 1 (rintro _ rfl)
  iterate 1 (rintro _ rfl)
  iterate 1 (rintro _ rfl)
  dsimp only [FinV]
  go_simp
  go_wp2
  go_ret
  exact ⟨rfl, HX.out.trans hx⟩
set_option maxRecDepth 100000 in
set_option maxHeartbeats 1000000 in
theorem act_3 (k n a b t : Int) (u : Value) (ks : List Int) (w : World) (hu : RE w u ks) (hl : ks.length ≤ 1000000) (hk1 : 1 ≤ k) (hk5 : k ≤ 5) (hn : inR n 65536 = true) (ha : inR a 65536 = true) (hb : inR b 480 = false) :
    Calls Tryz.prog 52 #[actAg k n a b t u] w fun e w' => e = .returned (.bool false) ∧ Ext w w' := by
  have HX := Lib.hid ((Ext.refl w).alloc (actCs k n a b t u))
  have HB := Lib.hid (Bx6.new w 24 (.int .i64 k) (.int .i64 n) (.int .i64 a) (.int .i64 b) (.int .i64 t) u)
  have HU := Lib.hid (RE.ext hu HX.out)
  have HN := Lib.hid (fun (W : World) p (hc : W.cell? ⟨p, 0, none⟩ = some (.int .i64 65536)) => within1_any n 65536 p W hc)
  rw [hn] at HN
  clear hn
  have HA := Lib.hid (fun (W : World) p (hc : W.cell? ⟨p, 0, none⟩ = some (.int .i64 65536)) => within1_any a 65536 p W hc)
  rw [ha] at HA
  clear ha
  have HBB := Lib.hid (fun (W : World) p (hc : W.cell? ⟨p, 0, none⟩ = some (.int .i64 480)) => within1_any b 480 p W hc)
  rw [hb] at HBB
  clear hb
  obtain ⟨A, c, rfl⟩ := hu.form
  clear hu hl
  have HWI := Lib.hid (fun m (W : World) => swithin_any m W)
  go_enter Tryz.func52, Tryz.ntmps52
  go_upto_region 1 with fail
  generalize w.heap.size = p at *
  generalize w.alloc (actCs k n a b t (.slice A ks.length c)) = w0 at *
  obtain ⟨c0, c1, c2, c3, c4, c5⟩ := HB.out.at_
  go_upto_region 3 with (refine (HWI.out 65536 _).mono ?_; rintro e w2 ⟨p1, rfl, hb1, he1⟩)
  replace HB := Lib.hid (HB.out.ext he1)
  replace HX := Lib.hid (HX.out.trans he1)
  replace HU := Lib.hid (RE.ext HU.out he1)
  have hp1 := hb1.cell 0
  clear c0 c1 c2 c3 c4 c5 he1
  obtain ⟨c0, c1, c2, c3, c4, c5⟩ := HB.out.at_
  refine yx ?_
  refine ya ?_
  refine yl6 c0 c1 c2 c3 c4 c5 ?_
  refine yc2 (.bool true) (fun w' hR => HN.out w' p1 (hR.cell hp1)) ?_
  refine ya ?_
  refine yl6 c0 c1 c2 c3 c4 c5 ?_
  refine yc2 (.bool true) (fun w' hR => HA.out w' p1 (hR.cell hp1)) ?_
  refine ya ?_
  refine wpY_call (fun v w => WI 480 v w) rfl rfl (by first | exact runs0 | exact runs1 rfl) rfl ((fun _ _ _ h k => WI.ext h k)) ?_ ?_
  · intro a w' hR  K hK
    go_simp
    refine (HWI.out 480 w').mono ?_
    rintro e w2 ⟨p9, rfl, hb9, he9⟩
    exact hK _ _ he9 ⟨p9, rfl, hb9⟩
  refine ya ?_
  refine yl6 c0 c1 c2 c3 c4 c5 ?_
  refine wpY_call (fun v _ => v = .bool false) rfl rfl (by first | exact runs0 | exact runs1 rfl) rfl (by first | exact mono_eq | exact (fun _ _ _ h k => Rd.ext h k) | exact (fun _ _ _ h k => RB.ext h k) | exact (fun _ _ _ h k => OB.ext h k) | exact (fun _ _ _ h k => RB.extS h k) | exact (fun _ _ _ h k => Rd.ext h (GrownW.ext k)) | exact (fun _ _ _ h k => RP.ext h k) | exact (fun _ _ _ h k => OP.ext h k) | exact (fun _ _ _ h k => Rd.extV h k) | exact (fun _ _ _ h k => RB.extV h k) | exact (fun _ _ _ h k => E0.ext h k) | exact (fun _ _ _ h k => O0.ext h k) | exact (fun _ _ _ h k => RE.ext h k) | exact (fun _ _ _ h k => RE.extD h k) | exact (fun _ _ _ h _ => h) | exact (fun _ _ _ ⟨n, h1, h2⟩ k => ⟨n, h1, k.st _ _ h2⟩) | exact (fun _ _ _ h k => OE.ext h k) | exact (fun _ _ _ ⟨n, h1, h2, h3⟩ k => ⟨n, h1, h2, h3.ext k⟩)) ?_ ?_
  · intro a w' hR h1 h2 K hK
    obtain ⟨x, ex, fx⟩ : ∃ x, a.tmps.getD 28 undef = x ∧ (fun v w => WI 480 v w) x w' := ⟨_, rfl, h1⟩
    have e2 : _ = _ := h2
    obtain ⟨p9, rfl, hb9⟩ := fx
    go_simp
    refine (HBB.out w' p9 (hb9.cell 0)).mono ?_
    rintro e w2 ⟨rfl, he⟩
    exact hK _ _ he rfl
  refine ya ?_
  refine wpY_done ?_
  intro wz hx hS
  iterate 1 (rintro _ rfl)
  iterate 1 (rintro _ rfl)
  iterate 1 (rintro _ rfl)
  iterate 1 (rintro _ rfl)
  iterate 1 (rintro _ rfl)
  iterate 1 (rintro _ rfl)
  iterate 1 (rintro _ rfl)
  iterate 1 (rintro _ rfl)
  iterate 1 (rintro _ rfl)
  iterate 1 (rintro _ rfl)
  iterate 1 (rintro _ rfl)
  iterate 1 (rintro _ rfl)
  iterate 1 (rintro _ rfl)
  iterate 1 (rintro _ rfl)
  iterate 1 (intro _ hz; clear hz)
  iterate 1 (rintro _ rfl)
  iterate 1 (rintro _ rfl)
  iterate 1 (rintro _ rfl)
  iterate 1 (rintro _ rfl)
  iterate 1 (rintro _ rfl)
  iterate 1 (rintro _ rfl)
  iterate 1 (rintro _ rfl)
  iterate 1 (rintro _ rfl)
  iterate 1 (rintro _ rfl)
  iterate 1 (rintro _ rfl)
  iterate 1 (rintro _ rfl)
  iterate 1 (rintro _ rfl)
  iterate 1 (rintro _ rfl)
  iterate 1 (rintro _ rfl)
  iterate 1 (rintro _ rfl)
  iterate 1 (rintro _ rfl)
  iterate 1 (rintro _ rfl)
  iterate 1 (rintro _ rfl)
  iterate 1 (rintro _ rfl)
  iterate 1 (rintro _ rfl)
  iterate 1 (rintro _ rfl)
  iterate 1 (rintro _ rfl)
  iterate 1 (rintro _ rfl)
  dsimp only [FinV]
  go_simp
  go_wp2
  go_ret
  exact ⟨rfl, HX.out.trans hx⟩
set_option maxRecDepth 100000 in
set_option maxHeartbeats 1000000 in
theorem act_4 (k n a b t : Int) (u : Value) (ks : List Int) (w : World) (hu : RE w u ks) (hl : ks.length ≤ 1000000) (hk1 : 1 ≤ k) (hk5 : k ≤ 5) (hn : inR n 65536 = true) (ha : inR a 65536 = true) (hb : inR b 480 = true) (ht : inR t 4294967295 = false) :
    Calls Tryz.prog 52 #[actAg k n a b t u] w fun e w' => e = .returned (.bool false) ∧ Ext w w' := by
  have HX := Lib.hid ((Ext.refl w).alloc (actCs k n a b t u))
  have HB := Lib.hid (Bx6.new w 24 (.int .i64 k) (.int .i64 n) (.int .i64 a) (.int .i64 b) (.int .i64 t) u)
  have HU := Lib.hid (RE.ext hu HX.out)
  have HN := Lib.hid (fun (W : World) p (hc : W.cell? ⟨p, 0, none⟩ = some (.int .i64 65536)) => within1_any n 65536 p W hc)
  rw [hn] at HN
  clear hn
  have HA := Lib.hid (fun (W : World) p (hc : W.cell? ⟨p, 0, none⟩ = some (.int .i64 65536)) => within1_any a 65536 p W hc)
  rw [ha] at HA
  clear ha
  have HBB := Lib.hid (fun (W : World) p (hc : W.cell? ⟨p, 0, none⟩ = some (.int .i64 480)) => within1_any b 480 p W hc)
  rw [hb] at HBB
  clear hb
  have HT := Lib.hid (fun (W : World) p (hc : W.cell? ⟨p, 0, none⟩ = some (.int .i64 4294967295)) => within1_any t 4294967295 p W hc)
  rw [ht] at HT
  clear ht
  obtain ⟨A, c, rfl⟩ := hu.form
  clear hu hl
  have HWI := Lib.hid (fun m (W : World) => swithin_any m W)
  go_enter Tryz.func52, Tryz.ntmps52
  go_upto_region 1 with fail
  generalize w.heap.size = p at *
  generalize w.alloc (actCs k n a b t (.slice A ks.length c)) = w0 at *
  obtain ⟨c0, c1, c2, c3, c4, c5⟩ := HB.out.at_
  go_upto_region 3 with (refine (HWI.out 65536 _).mono ?_; rintro e w2 ⟨p1, rfl, hb1, he1⟩)
  replace HB := Lib.hid (HB.out.ext he1)
  replace HX := Lib.hid (HX.out.trans he1)
  replace HU := Lib.hid (RE.ext HU.out he1)
  have hp1 := hb1.cell 0
  clear c0 c1 c2 c3 c4 c5 he1
  obtain ⟨c0, c1, c2, c3, c4, c5⟩ := HB.out.at_
  refine yx ?_
  refine ya ?_
  refine yl6 c0 c1 c2 c3 c4 c5 ?_
  refine yc2 (.bool true) (fun w' hR => HN.out w' p1 (hR.cell hp1)) ?_
  refine ya ?_
  refine yl6 c0 c1 c2 c3 c4 c5 ?_
  refine yc2 (.bool true) (fun w' hR => HA.out w' p1 (hR.cell hp1)) ?_
  refine ya ?_
  refine wpY_call (fun v w => WI 480 v w) rfl rfl (by first | exact runs0 | exact runs1 rfl) rfl ((fun _ _ _ h k => WI.ext h k)) ?_ ?_
  · intro a w' hR  K hK
    go_simp
    refine (HWI.out 480 w').mono ?_
    rintro e w2 ⟨p9, rfl, hb9, he9⟩
    exact hK _ _ he9 ⟨p9, rfl, hb9⟩
  refine ya ?_
  refine yl6 c0 c1 c2 c3 c4 c5 ?_
  refine wpY_call (fun v _ => v = .bool true) rfl rfl (by first | exact runs0 | exact runs1 rfl) rfl (by first | exact mono_eq | exact (fun _ _ _ h k => Rd.ext h k) | exact (fun _ _ _ h k => RB.ext h k) | exact (fun _ _ _ h k => OB.ext h k) | exact (fun _ _ _ h k => RB.extS h k) | exact (fun _ _ _ h k => Rd.ext h (GrownW.ext k)) | exact (fun _ _ _ h k => RP.ext h k) | exact (fun _ _ _ h k => OP.ext h k) | exact (fun _ _ _ h k => Rd.extV h k) | exact (fun _ _ _ h k => RB.extV h k) | exact (fun _ _ _ h k => E0.ext h k) | exact (fun _ _ _ h k => O0.ext h k) | exact (fun _ _ _ h k => RE.ext h k) | exact (fun _ _ _ h k => RE.extD h k) | exact (fun _ _ _ h _ => h) | exact (fun _ _ _ ⟨n, h1, h2⟩ k => ⟨n, h1, k.st _ _ h2⟩) | exact (fun _ _ _ h k => OE.ext h k) | exact (fun _ _ _ ⟨n, h1, h2, h3⟩ k => ⟨n, h1, h2, h3.ext k⟩)) ?_ ?_
  · intro a w' hR h1 h2 K hK
    obtain ⟨x, ex, fx⟩ : ∃ x, a.tmps.getD 28 undef = x ∧ (fun v w => WI 480 v w) x w' := ⟨_, rfl, h1⟩
    have e2 : _ = _ := h2
    obtain ⟨p9, rfl, hb9⟩ := fx
    go_simp
    refine (HBB.out w' p9 (hb9.cell 0)).mono ?_
    rintro e w2 ⟨rfl, he⟩
    exact hK _ _ he rfl
  refine ya ?_
  refine wpY_call (fun v w => WI 4294967295 v w) rfl rfl (by first | exact runs0 | exact runs1 rfl) rfl ((fun _ _ _ h k => WI.ext h k)) ?_ ?_
  · intro a w' hR  K hK
    go_simp
    refine (HWI.out 4294967295 w').mono ?_
    rintro e w2 ⟨p9, rfl, hb9, he9⟩
    exact hK _ _ he9 ⟨p9, rfl, hb9⟩
  refine ya ?_
  refine yl6 c0 c1 c2 c3 c4 c5 ?_
  refine wpY_call (fun v _ => v = .bool false) rfl rfl (by first | exact runs0 | exact runs1 rfl) rfl (by first | exact mono_eq | exact (fun _ _ _ h k => Rd.ext h k) | exact (fun _ _ _ h k => RB.ext h k) | exact (fun _ _ _ h k => OB.ext h k) | exact (fun _ _ _ h k => RB.extS h k) | exact (fun _ _ _ h k => Rd.ext h (GrownW.ext k)) | exact (fun _ _ _ h k => RP.ext h k) | exact (fun _ _ _ h k => OP.ext h k) | exact (fun _ _ _ h k => Rd.extV h k) | exact (fun _ _ _ h k => RB.extV h k) | exact (fun _ _ _ h k => E0.ext h k) | exact (fun _ _ _ h k => O0.ext h k) | exact (fun _ _ _ h k => RE.ext h k) | exact (fun _ _ _ h k => RE.extD h k) | exact (fun _ _ _ h _ => h) | exact (fun _ _ _ ⟨n, h1, h2⟩ k => ⟨n, h1, k.st _ _ h2⟩) | exact (fun _ _ _ h k => OE.ext h k) | exact (fun _ _ _ ⟨n, h1, h2, h3⟩ k => ⟨n, h1, h2, h3.ext k⟩)) ?_ ?_
  · intro a w' hR h1 h2 K hK
    obtain ⟨x, ex, fx⟩ : ∃ x, a.tmps.getD 34 undef = x ∧ (fun v w => WI 4294967295 v w) x w' := ⟨_, rfl, h1⟩
    have e2 : _ = _ := h2
    obtain ⟨p9, rfl, hb9⟩ := fx
    go_simp
    refine (HT.out w' p9 (hb9.cell 0)).mono ?_
    rintro e w2 ⟨rfl, he⟩
    exact hK _ _ he rfl
  refine ya ?_
  refine wpY_done ?_
  intro wz hx hS
  iterate 1 (rintro _ rfl)
  iterate 1 (rintro _ rfl)
  iterate 1 (rintro _ rfl)
  iterate 1 (rintro _ rfl)
  iterate 1 (rintro _ rfl)
  iterate 1 (rintro _ rfl)
  iterate 1 (rintro _ rfl)
  iterate 1 (rintro _ rfl)
  iterate 1 (rintro _ rfl)
  iterate 1 (rintro _ rfl)
  iterate 1 (rintro _ rfl)
  iterate 1 (rintro _ rfl)
  iterate 1 (rintro _ rfl)
  iterate 1 (rintro _ rfl)
  iterate 1 (intro _ hz; clear hz)
  iterate 1 (rintro _ rfl)
  iterate 1 (rintro _ rfl)
  iterate 1 (rintro _ rfl)
  iterate 1 (rintro _ rfl)
  iterate 1 (rintro _ rfl)
  iterate 1 (intro _ hz; clear hz)
  iterate 1 (rintro _ rfl)
  iterate 1 (rintro _ rfl)
  iterate 1 (rintro _ rfl)
  iterate 1 (rintro _ rfl)
  iterate 1 (rintro _ rfl)
  iterate 1 (rintro _ rfl)
  iterate 1 (rintro _ rfl)
  iterate 1 (rintro _ rfl)
  iterate 1 (rintro _ rfl)
  iterate 1 (rintro _ rfl)
  iterate 1 (rintro _ rfl)
  iterate 1 (rintro _ rfl)
  iterate 1 (rintro _ rfl)
  iterate 1 (rintro _ rfl)
  iterate 1 (rintro _ rfl)
  iterate 1 (rintro _ rfl)
  iterate 1 (rintro _ rfl)
  dsimp only [FinV]
  go_simp
  go_wp2
  go_ret
  exact ⟨rfl, HX.out.trans hx⟩
set_option maxRecDepth 100000 in
set_option maxHeartbeats 1000000 in
theorem act_5 (k n a b t : Int) (u : Value) (ks : List Int) (w : World) (hu : RE w u ks) (hl : ks.length ≤ 1000000) (hk1 : 1 ≤ k) (hk5 : k ≤ 5) (hn : inR n 65536 = true) (ha : inR a 65536 = true) (hb : inR b 480 = true) (ht : inR t 4294967295 = true) (hlen : ¬ ks.length ≤ 256) :
    Calls Tryz.prog 52 #[actAg k n a b t u] w fun e w' => e = .returned (.bool false) ∧ Ext w w' := by
  have HX := Lib.hid ((Ext.refl w).alloc (actCs k n a b t u))
  have HB := Lib.hid (Bx6.new w 24 (.int .i64 k) (.int .i64 n) (.int .i64 a) (.int .i64 b) (.int .i64 t) u)
  have HU := Lib.hid (RE.ext hu HX.out)
  have HN := Lib.hid (fun (W : World) p (hc : W.cell? ⟨p, 0, none⟩ = some (.int .i64 65536)) => within1_any n 65536 p W hc)
  rw [hn] at HN
  clear hn
  have HA := Lib.hid (fun (W : World) p (hc : W.cell? ⟨p, 0, none⟩ = some (.int .i64 65536)) => within1_any a 65536 p W hc)
  rw [ha] at HA
  clear ha
  have HBB := Lib.hid (fun (W : World) p (hc : W.cell? ⟨p, 0, none⟩ = some (.int .i64 480)) => within1_any b 480 p W hc)
  rw [hb] at HBB
  clear hb
  have HT := Lib.hid (fun (W : World) p (hc : W.cell? ⟨p, 0, none⟩ = some (.int .i64 4294967295)) => within1_any t 4294967295 p W hc)
  rw [ht] at HT
  clear ht
  have q256 : ¬ ((ks.length : Int) ≤ 256) := by omega
  have q257 : decide ((ks.length : Int) ≤ 256) = false := decide_eq_false q256
  obtain ⟨A, c, rfl⟩ := hu.form
  clear hu hl hlen
  have HWI := Lib.hid (fun m (W : World) => swithin_any m W)
  go_enter Tryz.func52, Tryz.ntmps52
  go_upto_region 1 with fail
  generalize w.heap.size = p at *
  generalize w.alloc (actCs k n a b t (.slice A ks.length c)) = w0 at *
  obtain ⟨c0, c1, c2, c3, c4, c5⟩ := HB.out.at_
  go_upto_region 3 with (refine (HWI.out 65536 _).mono ?_; rintro e w2 ⟨p1, rfl, hb1, he1⟩)
  replace HB := Lib.hid (HB.out.ext he1)
  replace HX := Lib.hid (HX.out.trans he1)
  replace HU := Lib.hid (RE.ext HU.out he1)
  have hp1 := hb1.cell 0
  clear c0 c1 c2 c3 c4 c5 he1
  obtain ⟨c0, c1, c2, c3, c4, c5⟩ := HB.out.at_
  refine yx ?_
  refine ya ?_
  refine yl6 c0 c1 c2 c3 c4 c5 ?_
  refine yc2 (.bool true) (fun w' hR => HN.out w' p1 (hR.cell hp1)) ?_
  refine ya ?_
  refine yl6 c0 c1 c2 c3 c4 c5 ?_
  refine yc2 (.bool true) (fun w' hR => HA.out w' p1 (hR.cell hp1)) ?_
  refine ya ?_
  refine wpY_call (fun v w => WI 480 v w) rfl rfl (by first | exact runs0 | exact runs1 rfl) rfl ((fun _ _ _ h k => WI.ext h k)) ?_ ?_
  · intro a w' hR  K hK
    go_simp
    refine (HWI.out 480 w').mono ?_
    rintro e w2 ⟨p9, rfl, hb9, he9⟩
    exact hK _ _ he9 ⟨p9, rfl, hb9⟩
  refine ya ?_
  refine yl6 c0 c1 c2 c3 c4 c5 ?_
  refine wpY_call (fun v _ => v = .bool true) rfl rfl (by first | exact runs0 | exact runs1 rfl) rfl (by first | exact mono_eq | exact (fun _ _ _ h k => Rd.ext h k) | exact (fun _ _ _ h k => RB.ext h k) | exact (fun _ _ _ h k => OB.ext h k) | exact (fun _ _ _ h k => RB.extS h k) | exact (fun _ _ _ h k => Rd.ext h (GrownW.ext k)) | exact (fun _ _ _ h k => RP.ext h k) | exact (fun _ _ _ h k => OP.ext h k) | exact (fun _ _ _ h k => Rd.extV h k) | exact (fun _ _ _ h k => RB.extV h k) | exact (fun _ _ _ h k => E0.ext h k) | exact (fun _ _ _ h k => O0.ext h k) | exact (fun _ _ _ h k => RE.ext h k) | exact (fun _ _ _ h k => RE.extD h k) | exact (fun _ _ _ h _ => h) | exact (fun _ _ _ ⟨n, h1, h2⟩ k => ⟨n, h1, k.st _ _ h2⟩) | exact (fun _ _ _ h k => OE.ext h k) | exact (fun _ _ _ ⟨n, h1, h2, h3⟩ k => ⟨n, h1, h2, h3.ext k⟩)) ?_ ?_
  · intro a w' hR h1 h2 K hK
    obtain ⟨x, ex, fx⟩ : ∃ x, a.tmps.getD 28 undef = x ∧ (fun v w => WI 480 v w) x w' := ⟨_, rfl, h1⟩
    have e2 : _ = _ := h2
    obtain ⟨p9, rfl, hb9⟩ := fx
    go_simp
    refine (HBB.out w' p9 (hb9.cell 0)).mono ?_
    rintro e w2 ⟨rfl, he⟩
    exact hK _ _ he rfl
  refine ya ?_
  refine wpY_call (fun v w => WI 4294967295 v w) rfl rfl (by first | exact runs0 | exact runs1 rfl) rfl ((fun _ _ _ h k => WI.ext h k)) ?_ ?_
  · intro a w' hR  K hK
    go_simp
    refine (HWI.out 4294967295 w').mono ?_
    rintro e w2 ⟨p9, rfl, hb9, he9⟩
    exact hK _ _ he9 ⟨p9, rfl, hb9⟩
  refine ya ?_
  refine yl6 c0 c1 c2 c3 c4 c5 ?_
  refine wpY_call (fun v _ => v = .bool true) rfl rfl (by first | exact runs0 | exact runs1 rfl) rfl (by first | exact mono_eq | exact (fun _ _ _ h k => Rd.ext h k) | exact (fun _ _ _ h k => RB.ext h k) | exact (fun _ _ _ h k => OB.ext h k) | exact (fun _ _ _ h k => RB.extS h k) | exact (fun _ _ _ h k => Rd.ext h (GrownW.ext k)) | exact (fun _ _ _ h k => RP.ext h k) | exact (fun _ _ _ h k => OP.ext h k) | exact (fun _ _ _ h k => Rd.extV h k) | exact (fun _ _ _ h k => RB.extV h k) | exact (fun _ _ _ h k => E0.ext h k) | exact (fun _ _ _ h k => O0.ext h k) | exact (fun _ _ _ h k => RE.ext h k) | exact (fun _ _ _ h k => RE.extD h k) | exact (fun _ _ _ h _ => h) | exact (fun _ _ _ ⟨n, h1, h2⟩ k => ⟨n, h1, k.st _ _ h2⟩) | exact (fun _ _ _ h k => OE.ext h k) | exact (fun _ _ _ ⟨n, h1, h2, h3⟩ k => ⟨n, h1, h2, h3.ext k⟩)) ?_ ?_
  · intro a w' hR h1 h2 K hK
    obtain ⟨x, ex, fx⟩ : ∃ x, a.tmps.getD 34 undef = x ∧ (fun v w => WI 4294967295 v w) x w' := ⟨_, rfl, h1⟩
    have e2 : _ = _ := h2
    obtain ⟨p9, rfl, hb9⟩ := fx
    go_simp
    refine (HT.out w' p9 (hb9.cell 0)).mono ?_
    rintro e w2 ⟨rfl, he⟩
    exact hK _ _ he rfl
  refine ya ?_
  refine yl6 c0 c1 c2 c3 c4 c5 ?_
  refine ya ?_
  refine wpY_done ?_
  intro wz hx hS
  iterate 1 (rintro _ rfl)
  iterate 1 (rintro _ rfl)
  iterate 1 (rintro _ rfl)
  iterate 1 (rintro _ rfl)
  iterate 1 (rintro _ rfl)
  iterate 1 (rintro _ rfl)
  iterate 1 (rintro _ rfl)
  iterate 1 (rintro _ rfl)
  iterate 1 (rintro _ rfl)
  iterate 1 (rintro _ rfl)
  iterate 1 (rintro _ rfl)
  iterate 1 (rintro _ rfl)
  iterate 1 (rintro _ rfl)
  iterate 1 (rintro _ rfl)
  iterate 1 (intro _ hz; clear hz)
  iterate 1 (rintro _ rfl)
  iterate 1 (rintro _ rfl)
  iterate 1 (rintro _ rfl)
  iterate 1 (rintro _ rfl)
  iterate 1 (rintro _ rfl)
  iterate 1 (intro _ hz; clear hz)
  iterate 1 (rintro _ rfl)
  iterate 1 (rintro _ rfl)
  iterate 1 (rintro _ rfl)
  iterate 1 (rintro _ rfl)
  iterate 1 (rintro _ rfl)
  iterate 1 (rintro _ rfl)
  iterate 1 (rintro _ rfl)
  iterate 1 (rintro _ rfl)
  iterate 1 (rintro _ rfl)
  iterate 1 (rintro _ rfl)
  iterate 1 (rintro _ rfl)
  iterate 1 (rintro _ rfl)
  iterate 1 (rintro _ rfl)
  iterate 1 (rintro _ rfl)
  iterate 1 (rintro _ rfl)
  iterate 1 (rintro _ rfl)
  iterate 1 (rintro _ rfl)
  dsimp only [FinV]
  go_simp
  go_wp2
  go_ret
  exact ⟨rfl, HX.out.trans hx⟩
set_option maxRecDepth 100000 in
set_option maxHeartbeats 1000000 in
theorem act_6 (k n a b t : Int) (u : Value) (ks : List Int) (w : World) (hu : RE w u ks) (hl : ks.length ≤ 1000000) (hk1 : 1 ≤ k) (hk5 : k ≤ 5) (hn : inR n 65536 = true) (ha : inR a 65536 = true) (hb : inR b 480 = true) (ht : inR t 4294967295 = true) (hlen : ks.length ≤ 256) :
    Calls Tryz.prog 52 #[actAg k n a b t u] w fun e w' => e = .returned (.bool (ks.all fun k => inR k 64)) ∧ Ext w w' := by
  have HX := Lib.hid ((Ext.refl w).alloc (actCs k n a b t u))
  have HB := Lib.hid (Bx6.new w 24 (.int .i64 k) (.int .i64 n) (.int .i64 a) (.int .i64 b) (.int .i64 t) u)
  have HU := Lib.hid (RE.ext hu HX.out)
  have HN := Lib.hid (fun (W : World) p (hc : W.cell? ⟨p, 0, none⟩ = some (.int .i64 65536)) => within1_any n 65536 p W hc)
  rw [hn] at HN
  clear hn
  have HA := Lib.hid (fun (W : World) p (hc : W.cell? ⟨p, 0, none⟩ = some (.int .i64 65536)) => within1_any a 65536 p W hc)
  rw [ha] at HA
  clear ha
  have HBB := Lib.hid (fun (W : World) p (hc : W.cell? ⟨p, 0, none⟩ = some (.int .i64 480)) => within1_any b 480 p W hc)
  rw [hb] at HBB
  clear hb
  have HT := Lib.hid (fun (W : World) p (hc : W.cell? ⟨p, 0, none⟩ = some (.int .i64 4294967295)) => within1_any t 4294967295 p W hc)
  rw [ht] at HT
  clear ht
  have q256 : ((ks.length : Int) ≤ 256) := by omega
  have HNN := Lib.hid (fun (W : World) (v : Value) p (hv : RE W v ks) (hb : Blk W p 3 #[.int .i64 64]) => none_any v ks 64 p W hv (by omega) hb)
  generalize (ks.all fun k => inR k 64) = res at *
  obtain ⟨A, c, rfl⟩ := hu.form
  clear hu hl hlen
  have HWI := Lib.hid (fun m (W : World) => swithin_any m W)
  go_enter Tryz.func52, Tryz.ntmps52
  go_upto_region 1 with fail
  generalize w.heap.size = p at *
  generalize w.alloc (actCs k n a b t (.slice A ks.length c)) = w0 at *
  obtain ⟨c0, c1, c2, c3, c4, c5⟩ := HB.out.at_
  go_upto_region 3 with (refine (HWI.out 65536 _).mono ?_; rintro e w2 ⟨p1, rfl, hb1, he1⟩)
  replace HB := Lib.hid (HB.out.ext he1)
  replace HX := Lib.hid (HX.out.trans he1)
  replace HU := Lib.hid (RE.ext HU.out he1)
  have hp1 := hb1.cell 0
  clear c0 c1 c2 c3 c4 c5 he1
  obtain ⟨c0, c1, c2, c3, c4, c5⟩ := HB.out.at_
  refine yx ?_
  refine ya ?_
  refine yl6 c0 c1 c2 c3 c4 c5 ?_
  refine yc2 (.bool true) (fun w' hR => HN.out w' p1 (hR.cell hp1)) ?_
  refine ya ?_
  refine yl6 c0 c1 c2 c3 c4 c5 ?_
  refine yc2 (.bool true) (fun w' hR => HA.out w' p1 (hR.cell hp1)) ?_
  refine ya ?_
  refine wpY_call (fun v w => WI 480 v w) rfl rfl (by first | exact runs0 | exact runs1 rfl) rfl ((fun _ _ _ h k => WI.ext h k)) ?_ ?_
  · intro a w' hR  K hK
    go_simp
    refine (HWI.out 480 w').mono ?_
    rintro e w2 ⟨p9, rfl, hb9, he9⟩
    exact hK _ _ he9 ⟨p9, rfl, hb9⟩
  refine ya ?_
  refine yl6 c0 c1 c2 c3 c4 c5 ?_
  refine wpY_call (fun v _ => v = .bool true) rfl rfl (by first | exact runs0 | exact runs1 rfl) rfl (by first | exact mono_eq | exact (fun _ _ _ h k => Rd.ext h k) | exact (fun _ _ _ h k => RB.ext h k) | exact (fun _ _ _ h k => OB.ext h k) | exact (fun _ _ _ h k => RB.extS h k) | exact (fun _ _ _ h k => Rd.ext h (GrownW.ext k)) | exact (fun _ _ _ h k => RP.ext h k) | exact (fun _ _ _ h k => OP.ext h k) | exact (fun _ _ _ h k => Rd.extV h k) | exact (fun _ _ _ h k => RB.extV h k) | exact (fun _ _ _ h k => E0.ext h k) | exact (fun _ _ _ h k => O0.ext h k) | exact (fun _ _ _ h k => RE.ext h k) | exact (fun _ _ _ h k => RE.extD h k) | exact (fun _ _ _ h _ => h) | exact (fun _ _ _ ⟨n, h1, h2⟩ k => ⟨n, h1, k.st _ _ h2⟩) | exact (fun _ _ _ h k => OE.ext h k) | exact (fun _ _ _ ⟨n, h1, h2, h3⟩ k => ⟨n, h1, h2, h3.ext k⟩)) ?_ ?_
  · intro a w' hR h1 h2 K hK
    obtain ⟨x, ex, fx⟩ : ∃ x, a.tmps.getD 28 undef = x ∧ (fun v w => WI 480 v w) x w' := ⟨_, rfl, h1⟩
    have e2 : _ = _ := h2
    obtain ⟨p9, rfl, hb9⟩ := fx
    go_simp
    refine (HBB.out w' p9 (hb9.cell 0)).mono ?_
    rintro e w2 ⟨rfl, he⟩
    exact hK _ _ he rfl
  refine ya ?_
  refine wpY_call (fun v w => WI 4294967295 v w) rfl rfl (by first | exact runs0 | exact runs1 rfl) rfl ((fun _ _ _ h k => WI.ext h k)) ?_ ?_
  · intro a w' hR  K hK
    go_simp
    refine (HWI.out 4294967295 w').mono ?_
    rintro e w2 ⟨p9, rfl, hb9, he9⟩
    exact hK _ _ he9 ⟨p9, rfl, hb9⟩
  refine ya ?_
  refine yl6 c0 c1 c2 c3 c4 c5 ?_
  refine wpY_call (fun v _ => v = .bool true) rfl rfl (by first | exact runs0 | exact runs1 rfl) rfl (by first | exact mono_eq | exact (fun _ _ _ h k => Rd.ext h k) | exact (fun _ _ _ h k => RB.ext h k) | exact (fun _ _ _ h k => OB.ext h k) | exact (fun _ _ _ h k => RB.extS h k) | exact (fun _ _ _ h k => Rd.ext h (GrownW.ext k)) | exact (fun _ _ _ h k => RP.ext h k) | exact (fun _ _ _ h k => OP.ext h k) | exact (fun _ _ _ h k => Rd.extV h k) | exact (fun _ _ _ h k => RB.extV h k) | exact (fun _ _ _ h k => E0.ext h k) | exact (fun _ _ _ h k => O0.ext h k) | exact (fun _ _ _ h k => RE.ext h k) | exact (fun _ _ _ h k => RE.extD h k) | exact (fun _ _ _ h _ => h) | exact (fun _ _ _ ⟨n, h1, h2⟩ k => ⟨n, h1, k.st _ _ h2⟩) | exact (fun _ _ _ h k => OE.ext h k) | exact (fun _ _ _ ⟨n, h1, h2, h3⟩ k => ⟨n, h1, h2, h3.ext k⟩)) ?_ ?_
  · intro a w' hR h1 h2 K hK
    obtain ⟨x, ex, fx⟩ : ∃ x, a.tmps.getD 34 undef = x ∧ (fun v w => WI 4294967295 v w) x w' := ⟨_, rfl, h1⟩
    have e2 : _ = _ := h2
    obtain ⟨p9, rfl, hb9⟩ := fx
    go_simp
    refine (HT.out w' p9 (hb9.cell 0)).mono ?_
    rintro e w2 ⟨rfl, he⟩
    exact hK _ _ he rfl
  refine ya ?_
  refine yl6 c0 c1 c2 c3 c4 c5 ?_
  refine ya ?_
  refine yl6 c0 c1 c2 c3 c4 c5 ?_
  refine wpY_call (fun v w => WI 64 v w) rfl rfl (by first | exact runs0 | exact runs1 rfl) rfl ((fun _ _ _ h k => WI.ext h k)) ?_ ?_
  · intro a w' hR  K hK
    go_simp
    refine (HWI.out 64 w').mono ?_
    rintro e w2 ⟨p9, rfl, hb9, he9⟩
    exact hK _ _ he9 ⟨p9, rfl, hb9⟩
  refine wpY_call (fun v _ => v = .bool res) rfl rfl (by first | exact runs0 | exact runs1 rfl) rfl (by first | exact mono_eq | exact (fun _ _ _ h k => Rd.ext h k) | exact (fun _ _ _ h k => RB.ext h k) | exact (fun _ _ _ h k => OB.ext h k) | exact (fun _ _ _ h k => RB.extS h k) | exact (fun _ _ _ h k => Rd.ext h (GrownW.ext k)) | exact (fun _ _ _ h k => RP.ext h k) | exact (fun _ _ _ h k => OP.ext h k) | exact (fun _ _ _ h k => Rd.extV h k) | exact (fun _ _ _ h k => RB.extV h k) | exact (fun _ _ _ h k => E0.ext h k) | exact (fun _ _ _ h k => O0.ext h k) | exact (fun _ _ _ h k => RE.ext h k) | exact (fun _ _ _ h k => RE.extD h k) | exact (fun _ _ _ h _ => h) | exact (fun _ _ _ ⟨n, h1, h2⟩ k => ⟨n, h1, k.st _ _ h2⟩) | exact (fun _ _ _ h k => OE.ext h k) | exact (fun _ _ _ ⟨n, h1, h2, h3⟩ k => ⟨n, h1, h2, h3.ext k⟩)) ?_ ?_
  · intro a w' hR h1 h2 K hK
    have e1 : _ = _ := h1
    obtain ⟨x, ex, fx⟩ : ∃ x, a.tmps.getD 48 undef = x ∧ (fun v w => WI 64 v w) x w' := ⟨_, rfl, h2⟩
    obtain ⟨p9, rfl, hb9⟩ := fx
    go_simp
    refine (HNN.out w' _ p9 (RE.ext HU.out hR) hb9).mono ?_
    rintro e w2 ⟨rfl, he⟩
    exact hK _ _ he rfl
  refine ya ?_
  refine wpY_done ?_
  intro wz hx hS
  iterate 1 (rintro _ rfl)
  iterate 1 (rintro _ rfl)
  iterate 1 (rintro _ rfl)
  iterate 1 (rintro _ rfl)
  iterate 1 (rintro _ rfl)
  iterate 1 (rintro _ rfl)
  iterate 1 (rintro _ rfl)
  iterate 1 (rintro _ rfl)
  iterate 1 (rintro _ rfl)
  iterate 1 (rintro _ rfl)
  iterate 1 (rintro _ rfl)
  iterate 1 (rintro _ rfl)
  iterate 1 (rintro _ rfl)
  iterate 1 (rintro _ rfl)
  iterate 1 (intro _ hz; clear hz)
  iterate 1 (rintro _ rfl)
  iterate 1 (rintro _ rfl)
  iterate 1 (rintro _ rfl)
  iterate 1 (rintro _ rfl)
  iterate 1 (rintro _ rfl)
  iterate 1 (intro _ hz; clear hz)
  iterate 1 (rintro _ rfl)
  iterate 1 (rintro _ rfl)
  iterate 1 (rintro _ rfl)
  iterate 1 (rintro _ rfl)
  iterate 1 (rintro _ rfl)
  iterate 1 (rintro _ rfl)
  iterate 1 (rintro _ rfl)
  iterate 1 (rintro _ rfl)
  iterate 1 (rintro _ rfl)
  iterate 1 (rintro _ rfl)
  iterate 1 (rintro _ rfl)
  iterate 1 (rintro _ rfl)
  iterate 1 (rintro _ rfl)
  iterate 1 (intro _ hz; clear hz)
  iterate 1 (rintro _ rfl)
  iterate 1 (rintro _ rfl)
  iterate 1 (rintro _ rfl)
  dsimp only [FinV]
  go_simp
  go_wp2
  go_ret
  exact ⟨rfl, HX.out.trans hx⟩
theorem act_any (k n a b t : Int) (u : Value) (ks : List Int) (w : World) (hu : RE w u ks) (hl : ks.length ≤ 1000000) :
    Calls Tryz.prog 52 #[actAg k n a b t u] w fun e w' => e = .returned (.bool (actOk ((k, n, a, b, t), ks))) ∧ Ext w w' := by
  have HR : actOk ((k, n, a, b, t), ks) = (decide (1 ≤ k) && decide (k ≤ 5) && inR n 65536 && inR a 65536 && inR b 480 && inR t 4294967295 && decide (ks.length ≤ 256) && ks.all fun k => inR k 64) := rfl
  rw [HR]
  by_cases hk : 1 ≤ k ∧ k ≤ 5
  · obtain ⟨hk1, hk5⟩ := hk
    rw [decide_eq_true hk1, decide_eq_true hk5]
    cases hn : inR n 65536 with
    | false => exact (act_1 k n a b t u ks w hu hl hk1 hk5 hn)
    | true =>
    cases ha : inR a 65536 with
    | false => exact (act_2 k n a b t u ks w hu hl hk1 hk5 hn ha)
    | true =>
    cases hb : inR b 480 with
    | false => exact (act_3 k n a b t u ks w hu hl hk1 hk5 hn ha hb)
    | true =>
    cases ht : inR t 4294967295 with
    | false => exact (act_4 k n a b t u ks w hu hl hk1 hk5 hn ha hb ht)
    | true =>
    by_cases hlen : ks.length ≤ 256
    · rw [decide_eq_true hlen]
      exact (act_6 k n a b t u ks w hu hl hk1 hk5 hn ha hb ht hlen)
    · rw [decide_eq_false hlen]
      exact (act_5 k n a b t u ks w hu hl hk1 hk5 hn ha hb ht hlen)
  · have h0 : (decide (1 ≤ k) && decide (k ≤ 5)) = false := by
      rw [Bool.and_eq_false_iff, decide_eq_false_iff_not, decide_eq_false_iff_not]
      omega
    rw [h0]
    exact act_0 k n a b t u ks w hu hl hk
end Go.Proofs.YtpmgmiiidfconaaGreatDoor
