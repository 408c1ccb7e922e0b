/-
  Layer 12: what must come of every program; a nil run.
-/
import Derived.Test.YtbokblklldphgaaRunDo
import Derived.Test.YtbokblklldphgaaRunArgs
namespace Go.Proofs.Ytbokblklldphgaa
open Go.RowKit Go.Ox Go.Shelf
attribute [local irreducible] OE RE RP OP
set_option linter.unusedVariables false
set_option linter.unusedSimpArgs false

set_option maxRecDepth 100000 in
set_option maxHeartbeats 400000 in
theorem at_ent (a b c : Int) (w : World) : Calls Try.prog 11 #[.int .i64 a, .int .i64 b, .int .i64 c] w fun e w' => e = .returned (entV ((a, b), c, 0)) ∧ Ext w w' := by
  have HX := Lib.hid ((Ext.refl w).alloc (.cells #[.int .i64 0, .int .i64 0, .int .i64 0, .int .i64 0] 33))
  have HB := Lib.hid (Blk.new w 33 #[.int .i64 0, .int .i64 0, .int .i64 0, .int .i64 0])
  go_enter Try.func11, Try.ntmps11
  go_wp2
  have hb := Blk.new w 33 #[.int .i64 a, .int .i64 b, .int .i64 c, .int .i64 0]
  have y0 := hb.cell 0
  have y1 := hb.cell 1
  have y2 := hb.cell 2
  have y3 := hb.cell 3
  exact bodyPost_ret (v := entV ((a, b), c, 0)) (by simp [results, Try.results11, go_sem, y0, y1, y2, y3]) rfl ⟨rfl, (Ext.refl w).alloc _⟩
theorem run_ext {T : TypeId} {w w1 w2 : World} {g : Nat} {lv : Value} {l : List Ent.E} {a b : Int} (h : Ext w w1) (hI : RunI T w1 g lv l a b) (hg : w.heap.size ≤ g) (hx : ExtQ (RunQ g lv) w1 w2) : Ext w w2 := h.andQ hx fun k hk => by have := hI.lt hk; omega
section
variable {w : World} {g : Nat} {lv : Value} {l l2 s : List Ent.E} {a b b2 e : Int}
theorem add_is (x : Ent.E) (h : RunI 59 w g lv l a b) (he : addE l a x = e) (hl : addL l a x = l2) (hm : addM l a b x = b2) :
    Calls Try.prog 10 #[.pointer (some ⟨g, 0, none⟩), entV x] w fun en w' => en = .returned (.int .i64 e) ∧ ∃ lv', RunI 59 w' g lv' l2 a b2 ∧ NewQ w lv lv' ∧ ExtQ (RunQ g lv) w w' := by
  subst he; subst hl; subst hm
  exact add_any x h
theorem keep_is (u : Value) (f : List (Int × Int)) (h : RunI 59 w g lv l a b) (hu : ∀ W, ExtQ (RunQ g lv) w W → RP W u f) (hf : f.length ≤ 1000000) (he : (l.length : Int) - ((Ent.bhd l f).length : Int) = e) (hl : Ent.bhd l f = l2) :
    Calls Try.prog 25 #[.pointer (some ⟨g, 0, none⟩), u] w fun en w' => en = .returned (.int .i64 e) ∧ ∃ lv', RunI 59 w' g lv' l2 a b ∧ NewQ w lv lv' ∧ ExtQ (RunQ g lv) w w' := by
  subst he; subst hl
  exact runKeep_any u f h hu hf
theorem all_is (h : RunI 59 w g lv l a b) (hs : Ent.srt l = s) : Calls Try.prog 15 #[.pointer (some ⟨g, 0, none⟩)] w fun e w' => ∃ u, e = .returned u ∧ OE 33 w.heap.size w' u s ∧ Ext w w' := by
  subst hs
  exact all_any h
theorem take_is (h : RunI 59 w g lv l a b) (hs : Ent.srt l = s) : Calls Try.prog 23 #[.pointer (some ⟨g, 0, none⟩)] w fun e w' => ∃ u, e = .returned u ∧ RE w' u s ∧ RunI 59 w' g (.slice none 0 0) [] a b ∧ ExtQ (RunQ g lv) w w' := by
  subst hs
  exact take_any h
theorem front_is {f : List Mom.M} (h : RunI 59 w g lv l a b) (hs : Ent.frt l = f) : Calls Try.prog 12 #[.pointer (some ⟨g, 0, none⟩)] w fun e w' => ∃ u, e = .returned u ∧ OP 29 w.heap.size w' u f ∧ Ext w w' := by
  subst hs
  exact runFront_any h
end

/-! ### lives -/
abbrev r1 : Ent.E := ((1, 0), 5, 0)
abbrev r2 : Ent.E := ((0, 1), 9, 0)
abbrev r3 : Ent.E := ((0, 0), 0, 0)
theorem live_asc : Ent.Asc [r2, r1] := by unfold Ent.Asc Ent.lt Mom.lt; decide
theorem live_srt : Ent.srt [r1, r2] = [r2, r1] := (Ent.srt_is live_asc (by decide)).symm
theorem live_srt1 : Ent.srt [r1] = [r1] := (Ent.srt_is (by unfold Ent.Asc Ent.lt Mom.lt; decide) (List.Perm.refl _)).symm
theorem live_frt : Ent.frt [r1, r2] = [(0, 1), (1, 0)] := by unfold Ent.frt; rw [live_srt]; decide +kernel
theorem live_bhd : Ent.bhd [r1, r2] [(1, 0)] = [r1] := by decide +kernel
theorem live_a1 : addE [] 2 r1 = 0 ∧ addL [] 2 r1 = [r1] ∧ addM [] 2 0 r1 = 1 := by decide +kernel
theorem live_a2 : addE [r1] 2 r2 = 0 ∧ addL [r1] 2 r2 = [r1, r2] ∧ addM [r1] 2 1 r2 = 2 := by decide +kernel
theorem live_a3 : addE [r1, r2] 2 r3 = 2 ∧ addL [r1, r2] 2 r3 = [r1, r2] ∧ addM [r1, r2] 2 2 r3 = 2 := by decide +kernel
set_option maxRecDepth 100000 in
set_option maxHeartbeats 8000000 in
theorem lives_any (w : World) :
    Calls Try.prog 8 #[] w fun e w' => e = .returned (.bool true) ∧ Ext w w' := by
  have HAT := Lib.hid at_ent
  go_enter Try.func8, Try.ntmps8
  go_wp2_with fail
  refine (new_ok 2 _ (by omega) (by omega)).mono ?_
  rintro e w1 ⟨rfl, hr1, hx1⟩
  obtain ⟨g, hg⟩ : ∃ g, g = w.heap.size := ⟨_, rfl⟩
  rw [← hg] at hr1 ⊢
  have HG := Lib.hid (Nat.le_of_eq hg.symm)
  clear hg
  have HR1 := Lib.hid hr1
  have HX1 := Lib.hid hx1
  clear hr1 hx1
  go_wp2_with fail
  refine (HAT.out _ _ _ _).mono ?_
  rintro e w2 ⟨rfl, he2⟩
  have HR2 := Lib.hid (HR1.out.ext he2)
  have HX2 := Lib.hid (HX1.out.trans he2)
  clear he2 HR1 HX1
  go_wp2_with fail
  refine (add_is r1 HR2.out live_a1.1 live_a1.2.1 live_a1.2.2).mono ?_
  rintro e w3 ⟨rfl, lv3, hr3, hn3, hx3⟩
  have HX3 := Lib.hid (run_ext HX2.out HR2.out HG.out hx3)
  have HR3 := Lib.hid hr3
  clear hr3 hn3 hx3 HR2 HX2
  go_wp2_with fail
  refine (HAT.out _ _ _ _).mono ?_
  rintro e w4 ⟨rfl, he4⟩
  have HR4 := Lib.hid (HR3.out.ext he4)
  have HX4 := Lib.hid (HX3.out.trans he4)
  clear he4 HR3 HX3
  go_wp2_with fail
  refine (add_is r2 HR4.out live_a2.1 live_a2.2.1 live_a2.2.2).mono ?_
  rintro e w5 ⟨rfl, lv5, hr5, hn5, hx5⟩
  have HX5 := Lib.hid (run_ext HX4.out HR4.out HG.out hx5)
  have HR5 := Lib.hid hr5
  clear hr5 hn5 hx5 HR4 HX4
  go_wp2_with fail
  refine (HAT.out _ _ _ _).mono ?_
  rintro e w6 ⟨rfl, he6⟩
  have HR6 := Lib.hid (HR5.out.ext he6)
  have HX6 := Lib.hid (HX5.out.trans he6)
  clear he6 HR5 HX5
  go_wp2_with fail
  refine (add_is r3 HR6.out live_a3.1 live_a3.2.1 live_a3.2.2).mono ?_
  rintro e w7 ⟨rfl, lv7, hr7, hn7, hx7⟩
  have HX7 := Lib.hid (run_ext HX6.out HR6.out HG.out hx7)
  have HR7 := Lib.hid hr7
  clear hr7 hn7 hx7 HR6 HX6
  go_wp2_with fail
  refine (all_is HR7.out live_srt).mono ?_
  rintro e w8 ⟨ul, rfl, hl8, he8⟩
  have HR8 := Lib.hid (HR7.out.ext he8)
  have HX8 := Lib.hid (HX7.out.trans he8)
  have HL8 := Lib.hid (hl8.low (show g ≤ w7.heap.size from by have := HR7.out.blk.lt; omega))
  have HLB := Lib.hid (fun k hk => hl8.lt (g := k) hk)
  have HQ8 := Lib.hid (fun k hk => HR7.out.lt (k := k) hk)
  clear hl8 HR7 HX7
  go_wp2_with fail
  refine (front_is HR8.out live_frt).mono ?_
  rintro e w9 ⟨uf, rfl, hf9, he9⟩
  have HR9 := Lib.hid (HR8.out.ext he9)
  have HX9 := Lib.hid (HX8.out.trans he9)
  have HL9 := Lib.hid (HL8.out.ext he9)
  have HF9 := Lib.hid hf9
  have HFB := Lib.hid (fun k hk => (OP.oe hf9).own.lt k hk)
  have HS9 := Lib.hid (Nat.le_trans he8.size he9.size)
  have HQ9 := Lib.hid (fun k hk => HR8.out.lt (k := k) hk)
  clear hf9 HR8 HX8 HL8
  have HA := Lib.hid ((Ext.refl w9).alloc (.cells #[.int .i64 1, .int .i64 0] 29))
  have HRA := Lib.hid (HR9.out.ext HA.out)
  have HLA := Lib.hid (HL9.out.ext HA.out)
  have HFA := Lib.hid ((OP.oe HF9.out).ext HA.out)
  have HXA := Lib.hid (HX9.out.trans HA.out)
  have HLIT := RP.lit w9 #[.int .i64 1, .int .i64 0] 29 1 [(1, 0)] rfl (by omega) rfl
  have HKP := Lib.hid (keep_is (e := 1) (.slice (some ⟨w9.heap.size, 0, none⟩) 1 1) [(1, 0)] HRA.out (fun W he => HLIT.extQ he (fun _ A m c ad hv hA hQ => by
    injection hv with q1
    subst q1
    injection hA with q2
    subst q2
    have h1 : g ≤ w9.heap.size ∧ w9.heap.size < w8.heap.size := HQ9.out _ hQ
    have h2 := he9.size
    omega)) (by decide) (by rw [live_bhd]; rfl) live_bhd)
  have HSA := Lib.hid (show w7.heap.size ≤ w8.heap.size ∧ w8.heap.size ≤ w9.heap.size ∧ w9.heap.size < (w9.alloc (.cells #[.int .i64 1, .int .i64 0] 29)).heap.size from ⟨he8.size, he9.size, by simp⟩)
  clear HLIT he8 he9 HR9 HL9 HF9 HX9
  obtain ⟨n9, hn9⟩ : ∃ n, w9.heap.size = n := ⟨_, rfl⟩
  rw [hn9] at HKP HSA
  go_wp2_with fail
  try rw [hn9]
  clear hn9
  generalize w9.alloc (.cells #[.int .i64 1, .int .i64 0] 29) = wA at *
  refine HKP.out.mono ?_
  rintro e w11 ⟨rfl, lv11, hr11, hn11, hx11⟩
  have HLb := Lib.hid (ext_own HLA.out hx11 (fun k hk q => by have h1 := HLB.out k hk; have h2 := HQ8.out k q; omega))
  have HFb := Lib.hid (OE.mk (ownsRow_extQ HFA.out.own hx11 (fun k hk q => by have h1 := HFB.out k hk; have h2 := HQ9.out k q; omega)))
  have HX11 := Lib.hid (run_ext HXA.out HRA.out HG.out hx11)
  have HR11 := Lib.hid hr11
  have HN11 := Lib.hid hn11
  have hQN : ∀ k, RunQ g lv11 k → RunQ g lv7 k ∨ wA.heap.size ≤ k := fun k hk => by
    rcases hk with rfl | hk
    · exact .inl (.inl rfl)
    · exact (HN11.out k hk).imp_left .inr
  have HQN := Lib.hid hQN
  clear hr11 hn11 hx11 hQN HRA HXA
  go_wp2_with fail
  refine (take_is HR11.out live_srt1).mono ?_
  rintro e w12 ⟨ut, rfl, ht12, hr12, hx12⟩
  have HLc := Lib.hid ((ext_own HLb.out hx12 (fun k hk q => by
    have h0 := HLA.out.lt hk
    have h1 := HLB.out k hk
    rcases HQN.out k q with q | q
    · have h2 := HQ8.out k q; omega
    · omega)).re)
  have HFc := Lib.hid ((OE.mk (ownsRow_extQ HFb.out.own hx12 (fun k hk q => by
    have h0 := HFA.out.lt hk
    have h1 := HFB.out k hk
    rcases HQN.out k q with q | q
    · have h2 := HQ9.out k q; omega
    · omega))).re)
  have HX12 := Lib.hid (run_ext HX11.out HR11.out HG.out hx12)
  have HR12 := Lib.hid hr12
  have HT12 := Lib.hid ht12
  clear hr12 hx12 ht12 HLb HFb HR11 HX11 HLA HFA HLB HFB HQ8 HQ9 HQN HN11 HSA
  go_wp2_with fail
  refine (new_bad 0 _ (by omega)).mono ?_
  rintro e w' ⟨rfl, rfl⟩
  go_wp2_with fail
  refine (HAT.out _ _ _ _).mono ?_
  rintro e w13 ⟨rfl, he13⟩
  go_wp2_with fail
  refine (HAT.out _ _ _ _).mono ?_
  rintro e w14 ⟨rfl, he14⟩
  have HE14 := Lib.hid (he13.trans he14)
  clear he13 he14
  have HA15 := Lib.hid (HE14.out.alloc (.cells #[.int .i64 0, .int .i64 1, .int .i64 9, .int .i64 0, .int .i64 1, .int .i64 0, .int .i64 5, .int .i64 0] 33))
  have HLIT := Lib.hid (RE.lit w14 #[.int .i64 0, .int .i64 1, .int .i64 9, .int .i64 0, .int .i64 1, .int .i64 0, .int .i64 5, .int .i64 0] 33 2 [r2, r1] rfl (by omega) rfl)
  obtain ⟨n14, hn14⟩ : ∃ n, w14.heap.size = n := ⟨_, rfl⟩
  rw [hn14] at HLIT
  go_wp2_with fail
  try rw [hn14]
  clear hn14
  generalize w14.alloc (.cells #[.int .i64 0, .int .i64 1, .int .i64 9, .int .i64 0, .int .i64 1, .int .i64 0, .int .i64 5, .int .i64 0] 33) = w15 at *
  refine (sameE_is _ _ [r2, r1] _ (HLc.out.ext HA15.out) HLIT.out).mono ?_
  rintro e w16 ⟨rfl, he16⟩
  have HA16 := Lib.hid (HA15.out.trans he16)
  have HA17 := Lib.hid ((HA15.out.trans he16).alloc (.cells #[.int .i64 0, .int .i64 1, .int .i64 1, .int .i64 0] 29))
  have HLIT2 := Lib.hid (RP.lit w16 #[.int .i64 0, .int .i64 1, .int .i64 1, .int .i64 0] 29 2 [(0, 1), (1, 0)] rfl (by omega) rfl)
  obtain ⟨n16, hn16⟩ : ∃ n, w16.heap.size = n := ⟨_, rfl⟩
  rw [hn16] at HLIT2
  clear he16 HLIT HLc HA15 HA16
  go_wp2_with fail
  try rw [hn16]
  clear hn16
  generalize w16.alloc (.cells #[.int .i64 0, .int .i64 1, .int .i64 1, .int .i64 0] 29) = w17 at *
  refine (sameM_is _ _ [(0, 1), (1, 0)] _ (RE.rp (HFc.out.ext HA17.out)) HLIT2.out).mono ?_
  rintro e w18 ⟨rfl, he18⟩
  have HA18 := Lib.hid (HA17.out.trans he18)
  clear he18 HLIT2 HFc HA17
  go_wp2_with fail
  refine (HAT.out _ _ _ _).mono ?_
  rintro e w19 ⟨rfl, he19⟩
  have HA20 := Lib.hid ((HA18.out.trans he19).alloc (.cells #[.int .i64 1, .int .i64 0, .int .i64 5, .int .i64 0] 33))
  have HLIT3 := Lib.hid (RE.lit w19 #[.int .i64 1, .int .i64 0, .int .i64 5, .int .i64 0] 33 1 [r1] rfl (by omega) rfl)
  obtain ⟨n19, hn19⟩ : ∃ n, w19.heap.size = n := ⟨_, rfl⟩
  rw [hn19] at HLIT3
  clear he19 HA18
  go_wp2_with fail
  try rw [hn19]
  clear hn19
  generalize w19.alloc (.cells #[.int .i64 1, .int .i64 0, .int .i64 5, .int .i64 0] 33) = w20 at *
  refine (sameE_is _ _ [r1] _ (HT12.out.ext HA20.out) HLIT3.out).mono ?_
  rintro e w21 ⟨rfl, he21⟩
  have HA21 := Lib.hid (HA20.out.trans he21)
  have HR21 := Lib.hid (HR12.out.ext HA21.out)
  have HLN := Lib.hid (show Calls Try.prog 13 #[.pointer (some ⟨g, 0, none⟩)] w21 fun e w' => e = .returned (.int .i64 0) ∧ w21 = w' from len_any HR21.out)
  clear he21 HLIT3 HT12 HA20 HR12
  go_wp2_with fail
  refine HLN.out.mono ?_
  rintro e w' ⟨rfl, rfl⟩
  go_wp2_with fail
  refine (limit_any HR21.out).mono ?_
  rintro e w' ⟨rfl, rfl⟩
  go_wp2_with fail
  refine (most_any HR21.out).mono ?_
  rintro e w' ⟨rfl, rfl⟩
  go_wp2
  go_ret
  exact ⟨rfl, HX12.out.trans HA21.out⟩
set_option maxRecDepth 100000 in
set_option maxHeartbeats 2000000 in
theorem runNobody_row (v : Value) (x : OpD × Value) (w : World) (hv : v = .agg #[.int .i64 x.1.1, .int .i64 x.1.2.1.1.1, .int .i64 x.1.2.1.1.2, .int .i64 x.1.2.1.2.1, .int .i64 x.1.2.1.2.2, x.2] ∧ RP w x.2 x.1.2.2) :
    Calls Try.prog 6 #[v] w fun e w' => e = .returned (.bool true) ∧ Ext w w' := by
  obtain ⟨rfl, hu⟩ := hv
  obtain ⟨⟨k, ⟨⟨x1, x2⟩, x3, x4⟩, f⟩, u⟩ := x
  replace hu : RP w u f := hu
  obtain ⟨A, c, rfl⟩ := hu.form
  have HX0 := Lib.hid ((Ext.refl w).alloc (.cells #[.int .i64 k, .int .i64 x1, .int .i64 x2, .int .i64 x3, .int .i64 x4, .slice A f.length c] 46))
  have HB0 := Lib.hid (Blk.new w 46 #[.int .i64 k, .int .i64 x1, .int .i64 x2, .int .i64 x3, .int .i64 x4, .slice A f.length c])
  clear hu
  go_enter Try.func6, Try.ntmps6
  go_upto_region 2 with fail
  generalize w.heap.size = p at *
  generalize w.alloc (.cells #[.int .i64 k, .int .i64 x1, .int .i64 x2, .int .i64 x3, .int .i64 x4, .slice A f.length c] 46) = w0 at *
  go_wp2_with fail
  refine (lives_any _).mono ?_
  rintro e w1 ⟨rfl, he1⟩
  have HX1 := Lib.hid (HX0.out.trans he1)
  have HB1 := Lib.hid (HB0.out.ext he1)
  clear he1
  have c1 : w1.cell? ⟨p, 1, none⟩ = some (.int .i64 x1) := HB1.out.cell 1
  have c2 : w1.cell? ⟨p, 2, none⟩ = some (.int .i64 x2) := HB1.out.cell 2
  have c3 : w1.cell? ⟨p, 3, none⟩ = some (.int .i64 x3) := HB1.out.cell 3
  have c4 : w1.cell? ⟨p, 4, none⟩ = some (.int .i64 x4) := HB1.out.cell 4
  go_wp2_with fail
  refine (add_nil ((x1, x2), x3, x4) _).mono ?_
  rintro e w2 ⟨rfl, he2⟩
  have HX2 := Lib.hid (HX1.out.trans he2)
  have HB2 := Lib.hid (HB1.out.ext he2)
  clear he2 c1 c2 c3 c4
  go_wp2_with fail
  refine (len_nil _).mono ?_
  rintro e w' ⟨rfl, rfl⟩
  go_wp2_with fail
  refine (limit_nil _).mono ?_
  rintro e w' ⟨rfl, rfl⟩
  go_wp2_with fail
  refine (most_nil _).mono ?_
  rintro e w' ⟨rfl, rfl⟩
  go_wp2_with fail
  refine (all_nil _).mono ?_
  rintro e w' ⟨rfl, rfl⟩
  go_wp2_with fail
  refine (take_nil _).mono ?_
  rintro e w' ⟨rfl, rfl⟩
  have c1 : w2.cell? ⟨p, 1, none⟩ = some (.int .i64 x1) := HB2.out.cell 1
  have c2 : w2.cell? ⟨p, 2, none⟩ = some (.int .i64 x2) := HB2.out.cell 2
  go_wp2_with fail
  refine (at_nil (x1, x2) _).mono ?_
  rintro e w3 ⟨ua, rfl, hua, he3⟩
  obtain ⟨A3, c3', rfl⟩ : ∃ A c, ua = .slice A 0 c := hua.form
  have HX3 := Lib.hid (HX2.out.trans he3)
  have HB3 := Lib.hid (HB2.out.ext he3)
  clear he3 c1 c2 hua
  have c5 : w3.cell? ⟨p, 5, none⟩ = some (.slice A f.length c) := HB3.out.cell 5
  go_wp2_with fail
  refine (keep_nil _ _ _ _).mono ?_
  rintro e w4 ⟨rfl, he4⟩
  have HX4 := Lib.hid (HX3.out.trans he4)
  clear he4 c5
  go_wp2_with fail
  refine (front_nil _).mono ?_
  rintro e w5 ⟨rfl, he5⟩
  go_wp2
  go_ret
  exact ⟨rfl, HX4.out.trans he5⟩
end Go.Proofs.Ytbokblklldphgaa
