/-
  Layer 7: EntryOrders, EntryChooses.
-/
import Derived.Test.YtacpomonidmjaaaEntLives
import Derived.Test.YtacpomonidmjaaaRecSame
namespace Go.Ox.Ent
theorem at_asc {l : List E} (h : Asc l) (m : Int × Int) : Rec.Asc (atL l m) := by
  unfold Rec.Asc atL
  rw [List.pairwise_map, List.pairwise_filter]
  refine h.imp ?_
  intro a b hab ha hb hl
  exact hab (.inr ⟨by rw [of_decide_eq_true hb, of_decide_eq_true ha], hl⟩)
theorem at_perm (l : List E) (m : Int × Int) : (atL (srt l) m).Perm (atL l m) := ((srt_perm l).filter _).map _
end Go.Ox.Ent
namespace Go.Proofs.Ytacpomonidmjaaa
open Go.RowKit Go.Ox Go.Shelf
attribute [local irreducible] RE RB RP OP OE
set_option linter.unusedVariables false
set_option linter.unusedSimpArgs false

theorem rsorted_is (v : Value) (l : List Rec.R) (w : World) (hv : RP w v l) (hl : l.length ≤ 1000000) (ha : Rec.Asc l) :
    Calls Try.prog 30 #[v] w fun e w' => e = .returned (.bool true) ∧ Ext w w' := by
  refine (rsorted_any v l w hv hl).mono ?_
  rintro e w' ⟨b, rfl, hb, he⟩
  exact ⟨by rw [hb.2 ha], he⟩
theorem rsame_is (v u : Value) (l r : List Rec.R) (w : World) (hv : RP w v l) (hu : RP w u r) (hl : l.length ≤ 1000000) (hr : r.length ≤ 1000000) (hp : l.Perm r) :
    Calls Try.prog 31 #[v, u] w fun e w' => e = .returned (.bool true) ∧ Ext w w' := by
  refine (rsame_any v u l r w hv hu hl hr).mono ?_
  rw [decide_eq_true (Rec.srt_congr hp)]
  exact fun _ _ h => h
theorem exact_is (v u : Value) (l : List Rec.R) (w : World) (hv : RP w v l) (hu : RP w u l) :
    Calls Try.prog 25 #[v, u] w fun e w' => e = .returned (.bool true) ∧ Ext w w' := by
  refine (exact_any v u l l w hv hu).mono ?_
  rw [decide_eq_true rfl]
  exact fun _ _ h => h

set_option maxRecDepth 100000 in
set_option maxHeartbeats 4000000 in
theorem entryOrders_row (v : Value) (l : List Ent.E) (m : Int × Int) (w : World) (hv : RE w v l) :
    Calls Try.prog 7 #[v, mV m] w fun e w' => e = .returned (.bool true) ∧ Ext w w' := by
  have hm9 := (RE.rd hv).len_le
  unfold maxLen at hm9
  obtain ⟨A, c, rfl⟩ := hv.form
  obtain ⟨m1, m2⟩ := m
  have HX0 := Lib.hid ((Ext.refl w).alloc (.cells #[.int .i64 m1, .int .i64 m2] 24))
  have HV0 := Lib.hid (hv.ext HX0.out)
  have B0 := Blk.new w 24 #[.int .i64 m1, .int .i64 m2]
  clear hv
  by_cases hl : 500 < l.length
  · have g : (500 : Int) < (l.length : Int) := by omega
    go_enter Try.func7, Try.ntmps7
    go_wp2_with fail
    refine (lives_any _).mono ?_
    rintro e w1 ⟨rfl, he1⟩
    go_wp2
    go_ret
    exact ⟨rfl, HX0.out.trans he1⟩
  have g : ¬ (500 : Int) < (l.length : Int) := by omega
  have HM := Lib.hid (fun w h => rmayE_any (.slice A l.length c) l w h (by omega))
  have HS := Lib.hid (fun w h => sortE_all (.slice A l.length c) l w h (by omega))
  have HAL := Lib.hid (fun w h => at_any (.slice A l.length c) l (m1, m2) w h (by omega))
  have hab : ∀ r : List Ent.E, (Ent.atL r (m1, m2)).length ≤ r.length := fun r => by have := Ent.atL_len r (m1, m2) r.length; rwa [List.take_length] at this
  have HL1 := Lib.hid (show (Ent.atL l (m1, m2)).length ≤ 1000000 by have := hab l; omega)
  have HL2 := Lib.hid (show (Ent.atL (Ent.srt l) (m1, m2)).length ≤ 1000000 by have := hab (Ent.srt l); rw [Ent.srt_len] at this; omega)
  have HSL := Lib.hid (show (Ent.srt l).length ≤ 1000000 by rw [Ent.srt_len]; omega)
  have HASC := Lib.hid (Ent.srt_asc l)
  have HAA := Lib.hid (Ent.at_asc (Ent.srt_asc l) (m1, m2))
  have HPM := Lib.hid (Ent.at_perm l (m1, m2))
  have c0 : (w.alloc (.cells #[.int .i64 m1, .int .i64 m2] 24)).cell? ⟨w.heap.size, 0, none⟩ = some (.int .i64 m1) := B0.cell 0
  have c1 : (w.alloc (.cells #[.int .i64 m1, .int .i64 m2] 24)).cell? ⟨w.heap.size, 1, none⟩ = some (.int .i64 m2) := B0.cell 1
  clear B0 hab hm9 hl
  by_cases hmay : Ent.may l = 0
  · rw [hmay] at HM HS
    rw [if_pos rfl] at HS
    have HAS := Lib.hid (fun v w h => at_any v (Ent.srt l) (m1, m2) w h HSL.out)
    clear hmay
    generalize Ent.srt l = s at *
    generalize Ent.atL s (m1, m2) = sl at *
    generalize Ent.atL l (m1, m2) = al at *
    go_enter Try.func7, Try.ntmps7
    go_upto_region 1 with fail
    generalize w.heap.size = p at *
    generalize w.alloc (.cells #[.int .i64 m1, .int .i64 m2] 24) = w0 at *
    go_wp2_with fail
    refine (HM.out _ HV0.out).mono ?_
    rintro e w1 ⟨rfl, he1⟩
    have HV1 := Lib.hid (HV0.out.ext he1)
    have HX1 := Lib.hid (HX0.out.trans he1)
    have c0 := he1.cell c0
    have c1 := he1.cell c1
    clear he1
    go_wp2_with fail
    refine (HS.out _ HV1.out).mono ?_
    rintro e w2 ⟨sv, rfl, hs, he2⟩
    have HS2 := Lib.hid hs
    obtain ⟨AS, cS, rfl⟩ := hs.form
    have HV2 := Lib.hid (HV1.out.ext he2)
    have HX2 := Lib.hid (HX1.out.trans he2)
    have c0 := he2.cell c0
    have c1 := he2.cell c1
    clear he2 hs
    go_wp2_with fail
    refine (HAS.out _ _ HS2.out).mono ?_
    rintro e w3 ⟨av, rfl, ha, he3⟩
    have HA3 := Lib.hid ha.rp
    obtain ⟨AA, cA, rfl⟩ := ha.rp.form
    have HS3 := Lib.hid (HS2.out.ext he3)
    have HV3 := Lib.hid (HV2.out.ext he3)
    have HX3 := Lib.hid (HX2.out.trans he3)
    have c0 := he3.cell c0
    have c1 := he3.cell c1
    clear he3 ha
    go_wp2_with fail
    refine (lives_any _).mono ?_
    rintro e w4 ⟨rfl, he4⟩
    have HS4 := Lib.hid (HS3.out.ext he4)
    have HA4 := Lib.hid (HA3.out.ext he4)
    have HV4 := Lib.hid (HV3.out.ext he4)
    have HX4 := Lib.hid (HX3.out.trans he4)
    have c0 := he4.cell c0
    have c1 := he4.cell c1
    clear he4
    go_wp2_with fail
    refine (entSorted_is _ _ _ HS4.out HSL.out HASC.out).mono ?_
    rintro e w5 ⟨rfl, he5⟩
    have HA5 := Lib.hid (HA4.out.ext he5)
    have HV5 := Lib.hid (HV4.out.ext he5)
    have HX5 := Lib.hid (HX4.out.trans he5)
    have c0 := he5.cell c0
    have c1 := he5.cell c1
    clear he5
    go_wp2_with fail
    refine (rsorted_is _ _ _ HA5.out HL2.out HAA.out).mono ?_
    rintro e w6 ⟨rfl, he6⟩
    have HA6 := Lib.hid (HA5.out.ext he6)
    have HV6 := Lib.hid (HV5.out.ext he6)
    have HX6 := Lib.hid (HX5.out.trans he6)
    have c0 := he6.cell c0
    have c1 := he6.cell c1
    clear he6
    go_wp2_with fail
    refine (HAL.out _ HV6.out).mono ?_
    rintro e w7 ⟨bv, rfl, hb, he7⟩
    obtain ⟨AB, cB, rfl⟩ := hb.rp.form
    have HB7 := Lib.hid hb.rp
    have HX7 := Lib.hid (HX6.out.trans he7)
    have HA7 := Lib.hid (HA6.out.ext he7)
    clear he7 hb c0 c1
    go_wp2_with fail
    refine (rsame_is _ _ _ _ _ HA7.out HB7.out HL2.out HL1.out HPM.out).mono ?_
    rintro e w8 ⟨rfl, he8⟩
    go_wp2
    go_ret
    exact ⟨rfl, HX7.out.trans he8⟩
  · have h2 : (Ent.may l != 0) = true := by simpa using hmay
    generalize Ent.may l = me at *
    clear hmay HS
    go_enter Try.func7, Try.ntmps7
    go_wp2_with fail
    refine (HM.out _ HV0.out).mono ?_
    rintro e w1 ⟨rfl, he1⟩
    go_wp2_with fail
    refine (lives_any _).mono ?_
    rintro e w2 ⟨rfl, he2⟩
    go_wp2
    go_ret
    exact ⟨rfl, (HX0.out.trans he1).trans he2⟩

set_option maxRecDepth 100000 in
set_option maxHeartbeats 4000000 in
theorem entryChooses_row (v u : Value) (l : List Ent.E) (m : Int × Int) (f : List (Int × Int)) (w : World) (hv : RE w v l) (hu : RP w u f) :
    Calls Try.prog 6 #[v, mV m, u] w fun e w' => e = .returned (.bool true) ∧ Ext w w' := by
  have hm9 := (RE.rd hv).len_le
  have hm8 := hu.rd.len_le
  unfold maxLen at hm9 hm8
  obtain ⟨A, c, rfl⟩ := hv.form
  obtain ⟨B, d, rfl⟩ := hu.form
  obtain ⟨m1, m2⟩ := m
  have HX0 := Lib.hid ((Ext.refl w).alloc (.cells #[.int .i64 m1, .int .i64 m2] 24))
  have HV0 := Lib.hid (hv.ext HX0.out)
  have HU0 := Lib.hid (hu.ext HX0.out)
  have B0 := Blk.new w 24 #[.int .i64 m1, .int .i64 m2]
  clear hv hu
  by_cases hl : 1000 < l.length
  · have g : (1000 : Int) < (l.length : Int) := by omega
    go_enter Try.func6, Try.ntmps6
    go_wp2_with fail
    refine (lives_any _).mono ?_
    rintro e w1 ⟨rfl, he1⟩
    go_wp2
    go_ret
    exact ⟨rfl, HX0.out.trans he1⟩
  have g : ¬ (1000 : Int) < (l.length : Int) := by omega
  by_cases hf : 100 < f.length
  · have g2 : (100 : Int) < (f.length : Int) := by omega
    go_enter Try.func6, Try.ntmps6
    go_wp2_with fail
    refine (lives_any _).mono ?_
    rintro e w1 ⟨rfl, he1⟩
    go_wp2
    go_ret
    exact ⟨rfl, HX0.out.trans he1⟩
  have g2 : ¬ (100 : Int) < (f.length : Int) := by omega
  have HAL := Lib.hid (fun w h => at_any (.slice A l.length c) l (m1, m2) w h (by omega))
  have HRL := Lib.hid (fun w h => rat_any (.slice A l.length c) l (m1, m2) w h (by omega))
  have HBH := Lib.hid (fun w h k => behind_any (.slice A l.length c) (.slice B f.length d) l f w h k (by omega) (by omega))
  have HRB := Lib.hid (fun w h k => rbehind_any (.slice A l.length c) (.slice B f.length d) l f w h k (by omega) (by omega))
  have c0 : (w.alloc (.cells #[.int .i64 m1, .int .i64 m2] 24)).cell? ⟨w.heap.size, 0, none⟩ = some (.int .i64 m1) := B0.cell 0
  have c1 : (w.alloc (.cells #[.int .i64 m1, .int .i64 m2] 24)).cell? ⟨w.heap.size, 1, none⟩ = some (.int .i64 m2) := B0.cell 1
  clear B0 hm9 hm8 hl hf
  generalize Ent.atL l (m1, m2) = al at *
  generalize Ent.bhd l f = bl at *
  go_enter Try.func6, Try.ntmps6
  go_upto_region 1 with fail
  generalize w.heap.size = p at *
  generalize w.alloc (.cells #[.int .i64 m1, .int .i64 m2] 24) = w0 at *
  go_wp2
  refine wp_regionY [] [] Ext Ext (fun _ => True) (by kernel_rfl) (by rfl) (by rfl) (by kernel_rfl) (by kernel_rfl) (by kernel_rfl) (fun _ _ _ x y => x.trans y) Ext.refl (fun _ _ x => x) (Ext.refl _).drew (fun _ _ x _ => x) trivial ?_
  refine wpY_call (fun v _ => v = .bool true) rfl rfl (by first | exact runs0 | exact runs1 rfl) rfl (by first | exact mono_eq | exact (fun _ _ _ h k => Rd.ext h k) | exact (fun _ _ _ h k => RB.ext h k) | exact (fun _ _ _ h k => OB.ext h k) | exact (fun _ _ _ h k => RB.extS h k) | exact (fun _ _ _ h k => Rd.ext h (GrownW.ext k)) | exact (fun _ _ _ h k => RP.ext h k) | exact (fun _ _ _ h k => OP.ext h k) | exact (fun _ _ _ h k => Rd.extV h k) | exact (fun _ _ _ h k => RB.extV h k) | exact (fun _ _ _ h k => E0.ext h k) | exact (fun _ _ _ h k => O0.ext h k) | exact (fun _ _ _ h k => RE.ext h k) | exact (fun _ _ _ h k => RE.extD h k) | exact (fun _ _ _ h _ => h) | exact (fun _ _ _ ⟨n, h1, h2⟩ k => ⟨n, h1, k.st _ _ h2⟩)) ?_ ?_
  · intro a w' hR  K hK
    go_simp
    refine (lives_any w').mono ?_
    rintro e w2 ⟨rfl, he⟩
    exact hK _ _ he rfl
  repeat (first | (refine wpY_move0 rfl rfl (by first | exact runs0 | exact runs1 rfl) Ext.refl rfl rfl rfl ?_; apply Exists.intro; refine ⟨?_, ?_⟩; · (go_simp; rfl)) | (refine wpY_move rfl rfl (by first | exact runs0 | exact runs1 rfl) Ext.refl rfl rfl rfl (fun _ _ _ h _ => h) ?_) | (refine wpY_val rfl rfl (by first | exact runs0 | exact runs1 rfl) Ext.refl rfl ?_; apply Exists.intro; refine ⟨?_, ?_⟩; · (intro a w' hR; intro h1; (first | (have e1 : _ = _ := h1) | skip); intro h2; (first | (have e2 : _ = _ := h2) | skip); go_simp; rfl)) | (refine wpY_val rfl rfl (by first | exact runs0 | exact runs1 rfl) Ext.refl rfl ?_; apply Exists.intro; refine ⟨?_, ?_⟩; · (intro a w' hR; intro h1; (first | (have e1 : _ = _ := h1) | skip); go_simp; rfl)) | (refine wpY_val rfl rfl (by first | exact runs0 | exact runs1 rfl) Ext.refl rfl ?_; apply Exists.intro; refine ⟨?_, ?_⟩; · (intro a w' hR; go_simp; rfl)) | (refine wpY_val rfl rfl (by first | exact runs0 | exact runs1 rfl) Ext.refl rfl ?_; apply Exists.intro; refine ⟨?_, ?_⟩; · (intro a w' hR; intro h1; (first | (have e1 : _ = _ := h1) | skip); intro h2; (first | (have e2 : _ = _ := h2) | skip); intro h3; (first | (have e3 : _ = _ := h3) | skip); go_simp; rfl)) | (refine wpY_skip rfl rfl (by first | exact .inl rfl | exact .inr rfl) ?_))
  refine wpY_val rfl rfl (by first | exact runs0 | exact runs1 rfl) Ext.refl rfl ?_; apply Exists.intro; refine ⟨?_, ?_⟩
  · intro a w' hR h1
    have e1 : _ = _ := h1
    have hl0 := hR.cell c0
    have hl1 := hR.cell c1
    go_simp
    rfl
  refine wpY_call (fun v w2 => RP w2 v al) rfl rfl (by first | exact runs0 | exact runs1 rfl) rfl (by first | exact mono_eq | exact (fun _ _ _ h k => Rd.ext h k) | exact (fun _ _ _ h k => RB.ext h k) | exact (fun _ _ _ h k => OB.ext h k) | exact (fun _ _ _ h k => RB.extS h k) | exact (fun _ _ _ h k => Rd.ext h (GrownW.ext k)) | exact (fun _ _ _ h k => RP.ext h k) | exact (fun _ _ _ h k => OP.ext h k) | exact (fun _ _ _ h k => Rd.extV h k) | exact (fun _ _ _ h k => RB.extV h k) | exact (fun _ _ _ h k => E0.ext h k) | exact (fun _ _ _ h k => O0.ext h k) | exact (fun _ _ _ h k => RE.ext h k) | exact (fun _ _ _ h k => RE.extD h k) | exact (fun _ _ _ h _ => h) | exact (fun _ _ _ ⟨n, h1, h2⟩ k => ⟨n, h1, k.st _ _ h2⟩)) ?_ ?_
  · intro a w' hR h1 h2 K hK
    have e1 : _ = _ := h1
    have e2 : _ = _ := h2
    go_simp
    refine (HAL.out w' (HV0.out.ext hR)).mono ?_
    rintro e w2 ⟨x, rfl, hx, he⟩
    exact hK _ _ he hx.rp
  repeat (first | (refine wpY_move0 rfl rfl (by first | exact runs0 | exact runs1 rfl) Ext.refl rfl rfl rfl ?_; apply Exists.intro; refine ⟨?_, ?_⟩; · (go_simp; rfl)) | (refine wpY_move rfl rfl (by first | exact runs0 | exact runs1 rfl) Ext.refl rfl rfl rfl (fun _ _ _ h _ => h) ?_) | (refine wpY_val rfl rfl (by first | exact runs0 | exact runs1 rfl) Ext.refl rfl ?_; apply Exists.intro; refine ⟨?_, ?_⟩; · (intro a w' hR; intro h1; (first | (have e1 : _ = _ := h1) | skip); intro h2; (first | (have e2 : _ = _ := h2) | skip); go_simp; rfl)) | (refine wpY_val rfl rfl (by first | exact runs0 | exact runs1 rfl) Ext.refl rfl ?_; apply Exists.intro; refine ⟨?_, ?_⟩; · (intro a w' hR; intro h1; (first | (have e1 : _ = _ := h1) | skip); go_simp; rfl)) | (refine wpY_val rfl rfl (by first | exact runs0 | exact runs1 rfl) Ext.refl rfl ?_; apply Exists.intro; refine ⟨?_, ?_⟩; · (intro a w' hR; go_simp; rfl)) | (refine wpY_val rfl rfl (by first | exact runs0 | exact runs1 rfl) Ext.refl rfl ?_; apply Exists.intro; refine ⟨?_, ?_⟩; · (intro a w' hR; intro h1; (first | (have e1 : _ = _ := h1) | skip); intro h2; (first | (have e2 : _ = _ := h2) | skip); intro h3; (first | (have e3 : _ = _ := h3) | skip); go_simp; rfl)) | (refine wpY_skip rfl rfl (by first | exact .inl rfl | exact .inr rfl) ?_))
  refine wpY_val rfl rfl (by first | exact runs0 | exact runs1 rfl) Ext.refl rfl ?_; apply Exists.intro; refine ⟨?_, ?_⟩
  · intro a w' hR h1
    have e1 : _ = _ := h1
    have hl0 := hR.cell c0
    have hl1 := hR.cell c1
    go_simp
    rfl
  refine wpY_call (fun v w2 => RP w2 v al) rfl rfl (by first | exact runs0 | exact runs1 rfl) rfl (by first | exact mono_eq | exact (fun _ _ _ h k => Rd.ext h k) | exact (fun _ _ _ h k => RB.ext h k) | exact (fun _ _ _ h k => OB.ext h k) | exact (fun _ _ _ h k => RB.extS h k) | exact (fun _ _ _ h k => Rd.ext h (GrownW.ext k)) | exact (fun _ _ _ h k => RP.ext h k) | exact (fun _ _ _ h k => OP.ext h k) | exact (fun _ _ _ h k => Rd.extV h k) | exact (fun _ _ _ h k => RB.extV h k) | exact (fun _ _ _ h k => E0.ext h k) | exact (fun _ _ _ h k => O0.ext h k) | exact (fun _ _ _ h k => RE.ext h k) | exact (fun _ _ _ h k => RE.extD h k) | exact (fun _ _ _ h _ => h) | exact (fun _ _ _ ⟨n, h1, h2⟩ k => ⟨n, h1, k.st _ _ h2⟩)) ?_ ?_
  · intro a w' hR h1 h2 K hK
    have e1 : _ = _ := h1
    have e2 : _ = _ := h2
    go_simp
    refine (HRL.out w' (HV0.out.ext hR)).mono ?_
    rintro e w2 ⟨x, rfl, hx, he⟩
    exact hK _ _ he hx.rp
  refine wpY_call (fun v _ => v = .bool true) rfl rfl (by first | exact runs0 | exact runs1 rfl) rfl (by first | exact mono_eq | exact (fun _ _ _ h k => Rd.ext h k) | exact (fun _ _ _ h k => RB.ext h k) | exact (fun _ _ _ h k => OB.ext h k) | exact (fun _ _ _ h k => RB.extS h k) | exact (fun _ _ _ h k => Rd.ext h (GrownW.ext k)) | exact (fun _ _ _ h k => RP.ext h k) | exact (fun _ _ _ h k => OP.ext h k) | exact (fun _ _ _ h k => Rd.extV h k) | exact (fun _ _ _ h k => RB.extV h k) | exact (fun _ _ _ h k => E0.ext h k) | exact (fun _ _ _ h k => O0.ext h k) | exact (fun _ _ _ h k => RE.ext h k) | exact (fun _ _ _ h k => RE.extD h k) | exact (fun _ _ _ h _ => h) | exact (fun _ _ _ ⟨n, h1, h2⟩ k => ⟨n, h1, k.st _ _ h2⟩)) ?_ ?_
  · intro a w' hR h1 h2 K hK
    obtain ⟨x, ex, fx⟩ : ∃ x, a.tmps.getD 20 undef = x ∧ (fun v w2 => RP w2 v al) x w' := ⟨_, rfl, h1⟩
    obtain ⟨y, ey, fy⟩ : ∃ x, a.tmps.getD 23 undef = x ∧ (fun v w2 => RP w2 v al) x w' := ⟨_, rfl, h2⟩
    go_simp
    refine (exact_is _ _ _ w' fx fy).mono ?_
    rintro e w2 ⟨rfl, he⟩
    exact hK _ _ he rfl
  repeat (first | (refine wpY_move0 rfl rfl (by first | exact runs0 | exact runs1 rfl) Ext.refl rfl rfl rfl ?_; apply Exists.intro; refine ⟨?_, ?_⟩; · (go_simp; rfl)) | (refine wpY_move rfl rfl (by first | exact runs0 | exact runs1 rfl) Ext.refl rfl rfl rfl (fun _ _ _ h _ => h) ?_) | (refine wpY_val rfl rfl (by first | exact runs0 | exact runs1 rfl) Ext.refl rfl ?_; apply Exists.intro; refine ⟨?_, ?_⟩; · (intro a w' hR; intro h1; (first | (have e1 : _ = _ := h1) | skip); intro h2; (first | (have e2 : _ = _ := h2) | skip); go_simp; rfl)) | (refine wpY_val rfl rfl (by first | exact runs0 | exact runs1 rfl) Ext.refl rfl ?_; apply Exists.intro; refine ⟨?_, ?_⟩; · (intro a w' hR; intro h1; (first | (have e1 : _ = _ := h1) | skip); go_simp; rfl)) | (refine wpY_val rfl rfl (by first | exact runs0 | exact runs1 rfl) Ext.refl rfl ?_; apply Exists.intro; refine ⟨?_, ?_⟩; · (intro a w' hR; go_simp; rfl)) | (refine wpY_val rfl rfl (by first | exact runs0 | exact runs1 rfl) Ext.refl rfl ?_; apply Exists.intro; refine ⟨?_, ?_⟩; · (intro a w' hR; intro h1; (first | (have e1 : _ = _ := h1) | skip); intro h2; (first | (have e2 : _ = _ := h2) | skip); intro h3; (first | (have e3 : _ = _ := h3) | skip); go_simp; rfl)) | (refine wpY_skip rfl rfl (by first | exact .inl rfl | exact .inr rfl) ?_))
  refine wpY_call (fun v w2 => RE w2 v bl) rfl rfl (by first | exact runs0 | exact runs1 rfl) rfl (by first | exact mono_eq | exact (fun _ _ _ h k => Rd.ext h k) | exact (fun _ _ _ h k => RB.ext h k) | exact (fun _ _ _ h k => OB.ext h k) | exact (fun _ _ _ h k => RB.extS h k) | exact (fun _ _ _ h k => Rd.ext h (GrownW.ext k)) | exact (fun _ _ _ h k => RP.ext h k) | exact (fun _ _ _ h k => OP.ext h k) | exact (fun _ _ _ h k => Rd.extV h k) | exact (fun _ _ _ h k => RB.extV h k) | exact (fun _ _ _ h k => E0.ext h k) | exact (fun _ _ _ h k => O0.ext h k) | exact (fun _ _ _ h k => RE.ext h k) | exact (fun _ _ _ h k => RE.extD h k) | exact (fun _ _ _ h _ => h) | exact (fun _ _ _ ⟨n, h1, h2⟩ k => ⟨n, h1, k.st _ _ h2⟩)) ?_ ?_
  · intro a w' hR h1 h2 K hK
    have e1 : _ = _ := h1
    have e2 : _ = _ := h2
    go_simp
    refine (HBH.out w' (HV0.out.ext hR) (HU0.out.ext hR)).mono ?_
    rintro e w2 ⟨x, rfl, hx, he⟩
    exact hK _ _ he hx
  repeat (first | (refine wpY_move0 rfl rfl (by first | exact runs0 | exact runs1 rfl) Ext.refl rfl rfl rfl ?_; apply Exists.intro; refine ⟨?_, ?_⟩; · (go_simp; rfl)) | (refine wpY_move rfl rfl (by first | exact runs0 | exact runs1 rfl) Ext.refl rfl rfl rfl (fun _ _ _ h _ => h) ?_) | (refine wpY_val rfl rfl (by first | exact runs0 | exact runs1 rfl) Ext.refl rfl ?_; apply Exists.intro; refine ⟨?_, ?_⟩; · (intro a w' hR; intro h1; (first | (have e1 : _ = _ := h1) | skip); intro h2; (first | (have e2 : _ = _ := h2) | skip); go_simp; rfl)) | (refine wpY_val rfl rfl (by first | exact runs0 | exact runs1 rfl) Ext.refl rfl ?_; apply Exists.intro; refine ⟨?_, ?_⟩; · (intro a w' hR; intro h1; (first | (have e1 : _ = _ := h1) | skip); go_simp; rfl)) | (refine wpY_val rfl rfl (by first | exact runs0 | exact runs1 rfl) Ext.refl rfl ?_; apply Exists.intro; refine ⟨?_, ?_⟩; · (intro a w' hR; go_simp; rfl)) | (refine wpY_val rfl rfl (by first | exact runs0 | exact runs1 rfl) Ext.refl rfl ?_; apply Exists.intro; refine ⟨?_, ?_⟩; · (intro a w' hR; intro h1; (first | (have e1 : _ = _ := h1) | skip); intro h2; (first | (have e2 : _ = _ := h2) | skip); intro h3; (first | (have e3 : _ = _ := h3) | skip); go_simp; rfl)) | (refine wpY_skip rfl rfl (by first | exact .inl rfl | exact .inr rfl) ?_))
  refine wpY_call (fun v w2 => RE w2 v bl) rfl rfl (by first | exact runs0 | exact runs1 rfl) rfl (by first | exact mono_eq | exact (fun _ _ _ h k => Rd.ext h k) | exact (fun _ _ _ h k => RB.ext h k) | exact (fun _ _ _ h k => OB.ext h k) | exact (fun _ _ _ h k => RB.extS h k) | exact (fun _ _ _ h k => Rd.ext h (GrownW.ext k)) | exact (fun _ _ _ h k => RP.ext h k) | exact (fun _ _ _ h k => OP.ext h k) | exact (fun _ _ _ h k => Rd.extV h k) | exact (fun _ _ _ h k => RB.extV h k) | exact (fun _ _ _ h k => E0.ext h k) | exact (fun _ _ _ h k => O0.ext h k) | exact (fun _ _ _ h k => RE.ext h k) | exact (fun _ _ _ h k => RE.extD h k) | exact (fun _ _ _ h _ => h) | exact (fun _ _ _ ⟨n, h1, h2⟩ k => ⟨n, h1, k.st _ _ h2⟩)) ?_ ?_
  · intro a w' hR h1 h2 K hK
    have e1 : _ = _ := h1
    have e2 : _ = _ := h2
    go_simp
    refine (HRB.out w' (HV0.out.ext hR) (HU0.out.ext hR)).mono ?_
    rintro e w2 ⟨x, rfl, hx, he⟩
    exact hK _ _ he hx
  refine wpY_call (fun v _ => v = .bool true) rfl rfl (by first | exact runs0 | exact runs1 rfl) rfl (by first | exact mono_eq | exact (fun _ _ _ h k => Rd.ext h k) | exact (fun _ _ _ h k => RB.ext h k) | exact (fun _ _ _ h k => OB.ext h k) | exact (fun _ _ _ h k => RB.extS h k) | exact (fun _ _ _ h k => Rd.ext h (GrownW.ext k)) | exact (fun _ _ _ h k => RP.ext h k) | exact (fun _ _ _ h k => OP.ext h k) | exact (fun _ _ _ h k => Rd.extV h k) | exact (fun _ _ _ h k => RB.extV h k) | exact (fun _ _ _ h k => E0.ext h k) | exact (fun _ _ _ h k => O0.ext h k) | exact (fun _ _ _ h k => RE.ext h k) | exact (fun _ _ _ h k => RE.extD h k) | exact (fun _ _ _ h _ => h) | exact (fun _ _ _ ⟨n, h1, h2⟩ k => ⟨n, h1, k.st _ _ h2⟩)) ?_ ?_
  · intro a w' hR h1 h2 K hK
    obtain ⟨x, ex, fx⟩ : ∃ x, a.tmps.getD 29 undef = x ∧ (fun v w2 => RE w2 v bl) x w' := ⟨_, rfl, h1⟩
    obtain ⟨y, ey, fy⟩ : ∃ x, a.tmps.getD 32 undef = x ∧ (fun v w2 => RE w2 v bl) x w' := ⟨_, rfl, h2⟩
    go_simp
    refine (sameE_is _ _ _ w' fx fy).mono ?_
    rintro e w2 ⟨rfl, he⟩
    exact hK _ _ he rfl
  repeat (first | (refine wpY_move0 rfl rfl (by first | exact runs0 | exact runs1 rfl) Ext.refl rfl rfl rfl ?_; apply Exists.intro; refine ⟨?_, ?_⟩; · (go_simp; rfl)) | (refine wpY_move rfl rfl (by first | exact runs0 | exact runs1 rfl) Ext.refl rfl rfl rfl (fun _ _ _ h _ => h) ?_) | (refine wpY_val rfl rfl (by first | exact runs0 | exact runs1 rfl) Ext.refl rfl ?_; apply Exists.intro; refine ⟨?_, ?_⟩; · (intro a w' hR; intro h1; (first | (have e1 : _ = _ := h1) | skip); intro h2; (first | (have e2 : _ = _ := h2) | skip); go_simp; rfl)) | (refine wpY_val rfl rfl (by first | exact runs0 | exact runs1 rfl) Ext.refl rfl ?_; apply Exists.intro; refine ⟨?_, ?_⟩; · (intro a w' hR; intro h1; (first | (have e1 : _ = _ := h1) | skip); go_simp; rfl)) | (refine wpY_val rfl rfl (by first | exact runs0 | exact runs1 rfl) Ext.refl rfl ?_; apply Exists.intro; refine ⟨?_, ?_⟩; · (intro a w' hR; go_simp; rfl)) | (refine wpY_val rfl rfl (by first | exact runs0 | exact runs1 rfl) Ext.refl rfl ?_; apply Exists.intro; refine ⟨?_, ?_⟩; · (intro a w' hR; intro h1; (first | (have e1 : _ = _ := h1) | skip); intro h2; (first | (have e2 : _ = _ := h2) | skip); intro h3; (first | (have e3 : _ = _ := h3) | skip); go_simp; rfl)) | (refine wpY_skip rfl rfl (by first | exact .inl rfl | exact .inr rfl) ?_))
  refine wpY_done ?_
  intro w7 hx7 hS
  iterate 4 (rintro _ rfl)
  rintro v20 h20
  iterate 2 (rintro _ rfl)
  rintro v23 h23
  iterate 5 (rintro _ rfl)
  rintro v29 h29
  iterate 2 (rintro _ rfl)
  rintro v32 h32
  iterate 3 (rintro _ rfl)
  dsimp only [FinV]
  go_simp
  have hx7 : Ext w0 w7 := hx7
  go_wp2
  go_ret
  exact ⟨rfl, HX0.out.trans hx7⟩
theorem entryOrders_law (w : World) (v : Value) (l : List Ent.E) (hv : RE w v l) (u : Value) (m : Mom.M) (hu : u = mV m) :
    Calls Try.prog 7 #[v, u] w fun e w' => e = .returned (.bool true) ∧ Ext w w' := by
  subst hu; exact entryOrders_row v l m w hv
theorem entryChooses_law (w : World) (v : Value) (l : List Ent.E) (hv : RE w v l) (u : Value) (m : Mom.M) (hu : u = mV m) (x : Value) (f : List Mom.M) (hx : RP w x f) :
    Calls Try.prog 6 #[v, u, x] w fun e w' => e = .returned (.bool true) ∧ Ext w w' := by
  subst hu; exact entryChooses_row v x l m f w hv hx
end Go.Proofs.Ytacpomonidmjaaa
