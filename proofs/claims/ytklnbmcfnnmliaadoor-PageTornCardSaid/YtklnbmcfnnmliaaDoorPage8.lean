/-
  The statements' own functions of layer 6: a torn page.
-/
import Derived.Test.YtklnbmcfnnmliaaDoorPage7
import Derived.Test.YtklnbmcfnnmliaaDoorApp0
import Derived.Test.YtklnbmcfnnmliaaDoorTail
namespace Go.Proofs.YtklnbmcfnnmliaaDoor
open Go.RowKit Go.Ox
attribute [local irreducible] OB RB

theorem bs_eqD (a b : List UInt8) : ((⟨a.toArray⟩ : ByteArray) == ⟨b.toArray⟩) = decide (a = b) := by
  rw [str_eq, Bool.eq_iff_iff]; simp
unseal OB in
theorem O0.rbB {base e : Nat} {l : List UInt8} {v : Value} {w : World} (h : O0 base e 1 l.length (l.map byteV) v w) : OB e base w v l := h

set_option maxRecDepth 100000 in
set_option maxHeartbeats 2000000 in
theorem torn_yes (W : World) (hh : Halves W) (m n k : Nat) (v1 : Value) (x1 : List UInt8) (b1 : RB W v1 x1) (v3 : Value) (x3 : List UInt8) (b3 : RB W v3 x3) (hl1 : x1.length ≤ 43) (hl3 : x3.length ≤ 43) (hm0 : TagMay m) (hm2 : TagMay n) (hne : m ≠ n) (hk64 : k ≤ 64) :
    Calls Tryd.prog 5 #[.int .i64 (m : Int), v1, .int .i64 (n : Int), v3, .int .i64 (k : Int)] W fun e w' => e = .returned (.bool true) ∧ Ext W w' := by
  obtain ⟨A1, c1, rfl⟩ := b1.form
  obtain ⟨A3, c3, rfl⟩ := b3.form
  have HV := Lib.hid (fun (w : World) (he : Ext W w) => plives_any w (hh.ext he))
  have HH := Lib.hid hh
  have HPX := Lib.hid (pput_any m _ x1 W hh hm0 b1 hl1)
  have HPY := Lib.hid (fun w he => pput_any n _ x3 w (hh.ext he) hm2 (b3.ext he) hl3)
  have HPLX := Lib.hid (pageP_len m hl1)
  have HPLY := Lib.hid (pageP_len n hl3)
  have HTN := Lib.hid (torn_new (k := k) hm0 hm2 hl1 hl3 hne hk64)
  have HTO := Lib.hid (torn_old (k := k) hm0 hm2 hl1 hl3 hne hk64)
  have HM0 := Lib.hid (fun w => rmay_yes m w hm0)
  have HM2 := Lib.hid (fun w => rmay_yes n w hm2)
  have d1 : decide ((43 : Int) < (x1.length : Int)) = false := decide_eq_false (by omega)
  have d3 : decide ((43 : Int) < (x3.length : Int)) = false := decide_eq_false (by omega)
  have g1 : ¬ (43 : Int) < (x1.length : Int) := by omega
  have d5 : ((m : Int) == (n : Int)) = false := by simp; omega
  have d4 : decide ((k : Int) < 0) = false := decide_eq_false (by omega)
  have d6 : decide (64 < (k : Int)) = false := decide_eq_false (by omega)
  clear hm0 hm2 hne hl1 hl3 hh b1 b3
  generalize pageP m x1 = px at *
  generalize pageP n x3 = py at *
  go_enter Tryd.func5, Tryd.ntmps5
  go_upto_region 4 with (first
    | (go_at_call 9; (with_reducible refine (HM0.out _).mono ?_); rintro e w' ⟨rfl, rfl⟩)
    | (go_at_call 9; (with_reducible refine (HM2.out _).mono ?_); rintro e w' ⟨rfl, rfl⟩)
    | (go_at_call 8; refine HPX.out.mono ?_; rintro e w1 ⟨u1, rfl, ho1, he1⟩; obtain ⟨Ax, cx, hfx⟩ := ho1.form; rw [HPLX.out] at hfx; subst hfx; have HO1 := Lib.hid ho1; have HE1 := Lib.hid he1; clear ho1 he1))
  go_upto_region 5 with (go_at_call 8; refine (HPY.out _ HE1.out).mono ?_; rintro e w2 ⟨u2, rfl, ho2, he2⟩; obtain ⟨Ay, cy, hfy⟩ := ho2.form; rw [HPLY.out] at hfy; subst hfy; have HO2 := Lib.hid ho2; have HE2 := Lib.hid he2; clear ho2 he2)
  go_upto_region 7 with (go_at_call 7; refine (HV.out _ (HE1.out.trans HE2.out)).mono ?_; rintro e w3 ⟨rfl, he3⟩; have HE3 := Lib.hid he3; clear he3)
  have hRX := HO1.out.rb.ext (HE2.out.trans HE3.out)
  have hRY := HO2.out.rb.ext HE3.out
  have HSX := Lib.hid hRX
  have HSY := Lib.hid hRY
  rw [← HPLX.out] at hRX
  rw [← HPLY.out] at hRY
  have hcy : 64 ≤ cy := by have := hRY.nc.1; rw [HPLY.out] at this; exact this
  have hky : (k : Int) ≤ (cy : Int) := by omega
  have hkx2 : (k : Int) ≤ 64 := by omega
  obtain ⟨AX, hcx, hrx⟩ := RB.lo elemB hRX (k := k) (by rw [HPLX.out]; exact hk64) (k : Int) rfl
  have hry := hRY.takeS (k := k) (by rw [HPLY.out]; exact hk64)
  rw [HPLX.out] at hcx hrx
  have HRX := Lib.hid hrx
  have HRY := Lib.hid hry
  have hlY : Hid ((py.take k).length ≤ 64) := Lib.hid (by rw [List.length_take, HPLY.out]; omega)
  have hlX : Hid ((px.drop k).length ≤ 64) := Lib.hid (by rw [List.length_drop, HPLX.out]; omega)
  clear hrx hry hRX hRY
  have hk87 : ∀ w', Ext w3 w' → Rd w' 1 (.slice Ay k cy) (py.take k).length ((py.take k).map byteV) := fun w' he => (HRY.out.ext he).rd
  have HK87 := Lib.hid hk87
  clear hk87
  refine wp_region_tailY 8 [] [] Ext Ext (fun _ => True) (by kernel_rfl) (by kernel_rfl) (by kernel_rfl) (by kernel_rfl) (by kernel_rfl) (by kernel_rfl) (by kernel_rfl) (by rfl) (by rfl) (by kernel_rfl) (by kernel_rfl) (by kernel_rfl) (fun _ _ _ x y => x.trans y) Ext.refl (fun _ _ x => x) (Ext.refl _).drew (fun _ _ x _ => x) trivial ?_
  refine wpY_call (E0 w3.heap.size 5) rfl rfl (by first | exact runs0 | exact runs1 rfl) rfl (by first | exact mono_eq | exact (fun _ _ _ h k => Rd.ext h k) | exact (fun _ _ _ h k => RB.ext h k) | exact (fun _ _ _ h k => OB.ext h k) | exact (fun _ _ _ h k => RB.extS h k) | exact (fun _ _ _ h k => Rd.ext h (GrownW.ext k)) | exact (fun _ _ _ h k => RP.ext h k) | exact (fun _ _ _ h k => OP.ext h k) | exact (fun _ _ _ h k => Rd.extV h k) | exact (fun _ _ _ h k => RB.extV h k) | exact (fun _ _ _ h k => E0.ext h k) | exact (fun _ _ _ h k => O0.ext h k)) ?_ ?_
  · intro a w' hR  K hK
    go_simp
    exact hK _ _ ((Ext.refl _).alloc _) (E0.new _ _ hR.size)
  repeat (first | (refine wpY_move0 rfl rfl (by first | exact runs0 | exact runs1 rfl) Ext.refl rfl rfl rfl ?_; apply Exists.intro; refine ⟨?_, ?_⟩; · (go_simp; rfl)) | (refine wpY_move rfl rfl (by first | exact runs0 | exact runs1 rfl) Ext.refl rfl rfl rfl (fun _ _ _ h _ => h) ?_) | (refine wpY_val rfl rfl (by first | exact runs0 | exact runs1 rfl) Ext.refl rfl ?_; apply Exists.intro; refine ⟨?_, ?_⟩; · (intro a w' hR; intro h1; (first | (have e1 : _ = _ := h1) | skip); intro h2; (first | (have e2 : _ = _ := h2) | skip); go_simp; rfl)) | (refine wpY_val rfl rfl (by first | exact runs0 | exact runs1 rfl) Ext.refl rfl ?_; apply Exists.intro; refine ⟨?_, ?_⟩; · (intro a w' hR; intro h1; (first | (have e1 : _ = _ := h1) | skip); go_simp; rfl)) | (refine wpY_val rfl rfl (by first | exact runs0 | exact runs1 rfl) Ext.refl rfl ?_; apply Exists.intro; refine ⟨?_, ?_⟩; · (intro a w' hR; go_simp; rfl)) | (refine wpY_val rfl rfl (by first | exact runs0 | exact runs1 rfl) Ext.refl rfl ?_; apply Exists.intro; refine ⟨?_, ?_⟩; · (intro a w' hR; intro h1; (first | (have e1 : _ = _ := h1) | skip); intro h2; (first | (have e2 : _ = _ := h2) | skip); intro h3; (first | (have e3 : _ = _ := h3) | skip); go_simp; rfl)) | (refine wpY_skip rfl rfl (by first | exact .inl rfl | exact .inr rfl) ?_))
  refine wpY_call (O0 w3.heap.size 5 1 (py.take k).length ((py.take k).map byteV)) rfl rfl (by first | exact runs0 | exact runs1 rfl) rfl (by first | exact mono_eq | exact (fun _ _ _ h k => Rd.ext h k) | exact (fun _ _ _ h k => RB.ext h k) | exact (fun _ _ _ h k => OB.ext h k) | exact (fun _ _ _ h k => RB.extS h k) | exact (fun _ _ _ h k => Rd.ext h (GrownW.ext k)) | exact (fun _ _ _ h k => RP.ext h k) | exact (fun _ _ _ h k => OP.ext h k) | exact (fun _ _ _ h k => Rd.extV h k) | exact (fun _ _ _ h k => RB.extV h k) | exact (fun _ _ _ h k => E0.ext h k) | exact (fun _ _ _ h k => O0.ext h k)) ?_ ?_
  · intro a w' hR h1 h2 K hK
    obtain ⟨x, ex, fx⟩ : ∃ x, a.tmps.getD 84 undef = x ∧ (E0 w3.heap.size 5) x w' := ⟨_, rfl, h1⟩
    have e2 : _ = _ := h2
    refine wp_app0 elemB _ (.tmp 84) (.tmp 87) rfl x ex fx _ (py.take k).length ((py.take k).map byteV) (e2 : a.tmps.getD 87 undef = _) ?_ (one_byteV _) (by have := hlY.out; omega) (by have := hlY.out; unfold maxLen; omega) ?_
    · exact HK87.out w' hR
    intro v' w2 he ho
    exact hK _ _ he ho
  repeat (first | (refine wpY_move0 rfl rfl (by first | exact runs0 | exact runs1 rfl) Ext.refl rfl rfl rfl ?_; apply Exists.intro; refine ⟨?_, ?_⟩; · (go_simp; rfl)) | (refine wpY_move rfl rfl (by first | exact runs0 | exact runs1 rfl) Ext.refl rfl rfl rfl (fun _ _ _ h _ => h) ?_) | (refine wpY_val rfl rfl (by first | exact runs0 | exact runs1 rfl) Ext.refl rfl ?_; apply Exists.intro; refine ⟨?_, ?_⟩; · (intro a w' hR; intro h1; (first | (have e1 : _ = _ := h1) | skip); intro h2; (first | (have e2 : _ = _ := h2) | skip); go_simp; rfl)) | (refine wpY_val rfl rfl (by first | exact runs0 | exact runs1 rfl) Ext.refl rfl ?_; apply Exists.intro; refine ⟨?_, ?_⟩; · (intro a w' hR; intro h1; (first | (have e1 : _ = _ := h1) | skip); go_simp; rfl)) | (refine wpY_val rfl rfl (by first | exact runs0 | exact runs1 rfl) Ext.refl rfl ?_; apply Exists.intro; refine ⟨?_, ?_⟩; · (intro a w' hR; go_simp; rfl)) | (refine wpY_val rfl rfl (by first | exact runs0 | exact runs1 rfl) Ext.refl rfl ?_; apply Exists.intro; refine ⟨?_, ?_⟩; · (intro a w' hR; intro h1; (first | (have e1 : _ = _ := h1) | skip); intro h2; (first | (have e2 : _ = _ := h2) | skip); intro h3; (first | (have e3 : _ = _ := h3) | skip); go_simp; rfl)) | (refine wpY_skip rfl rfl (by first | exact .inl rfl | exact .inr rfl) ?_))
  refine wpY_done ?_
  intro w4 hx hS
  rintro v84 h84
  iterate 3 (rintro _ rfl)
  rintro v88 h88
  iterate 3 (rintro _ rfl)
  dsimp only [FinV]
  go_simp
  clear hS
  have HX := Lib.hid hx
  obtain ⟨A8, c8, rfl⟩ := (O0.rbB h88).form
  have HO8 := Lib.hid (O0.rbB h88)
  clear h88 h84 hx
  have hl9 : Hid ((py.take k ++ px.drop k).length ≤ 1000000) := Lib.hid (by rw [List.length_append]; have := hlX.out; have := hlY.out; omega)
  simp only [thenTail, List.drop_succ_cons, List.drop_zero]
  go_upto_region 8 with (refine wpList_appBB rfl elemB w3 _ (.tmp 88) (.tmp 91) rfl _ (py.take k) rfl HO8.out HX.out _ (px.drop k) rfl (HRX.out.ext HX.out) (by have := hlX.out; have := hlY.out; omega) ?_; intro v9 w9 ho9 he9 hg9; generalize py.take k ++ px.drop k = z at *; obtain ⟨A9, c9, rfl⟩ := ho9.form; have HO9 := Lib.hid ho9; have HE9 := Lib.hid he9; clear ho9 he9 hg9)
  have HXW := Lib.hid ((HE1.out.trans HE2.out).trans (HE3.out.trans HE9.out))
  go_upto_region 9 with (go_at_call 10; refine (pget_e n _ z (getL n z).1 (getL n z).2 _ (HH.out.ext HXW.out) HO9.out.rb hl9.out rfl).mono ?_; rintro e w10 ⟨u10, rfl, ho10, he10⟩; obtain ⟨A10, c10, rfl⟩ := ho10.form; have HE10 := Lib.hid he10; clear ho10 he10)
  go_upto_region 10 with (go_at_call 10; refine (pget_e m _ z (getL m z).1 (getL m z).2 _ (HH.out.ext (HXW.out.trans HE10.out)) (HO9.out.rb.ext HE10.out) hl9.out rfl).mono ?_; rintro e w11 ⟨u11, rfl, ho11, he11⟩; obtain ⟨A11, c11, rfl⟩ := ho11.form; have HE11 := Lib.hid he11; clear ho11 he11)
  have hs1 := strB (HO9.out.rb.ext (HE10.out.trans HE11.out))
  have hs2 := strB (HSX.out.ext (HE9.out.trans (HE10.out.trans HE11.out)))
  have hs3 := strB (HSY.out.ext (HE9.out.trans (HE10.out.trans HE11.out)))
  have hq1 := str_eq z py
  have hq2 := str_eq z px
  have e1 : ((getL n z).1 == 0) = (z == py) := by rw [Bool.eq_iff_iff]; simpa using HTN.out
  have e2 : ((getL m z).1 == 0) = (z == px) := by rw [Bool.eq_iff_iff]; simpa using HTO.out
  generalize (getL n z).1 = y1 at *
  generalize (getL m z).1 = y2 at *
  generalize h7 : (z == py) = d7 at *
  generalize h8 : (z == px) = d8 at *
  have e3 : (d7 == d7) = true := by simp
  have e4 : (d8 == d8) = true := by simp
  go_wp2
  go_ret
  exact ⟨rfl, HXW.out.trans (HE10.out.trans HE11.out)⟩
theorem pageTorn_law (W : World) (hh : Halves W) (x0 : Int) (_b0 : -9223372036854775808 ≤ x0 ∧ x0 ≤ 9223372036854775807) (v1 : Value) (x1 : List UInt8) (b1 : RB W v1 x1) (x2 : Int) (_b2 : -9223372036854775808 ≤ x2 ∧ x2 ≤ 9223372036854775807) (v3 : Value) (x3 : List UInt8) (b3 : RB W v3 x3) (x4 : Int) (_b4 : -9223372036854775808 ≤ x4 ∧ x4 ≤ 9223372036854775807) :
    Calls Tryd.prog 5 #[.int .i64 x0, v1, .int .i64 x2, v3, .int .i64 x4] W fun e w' => e = .returned (.bool true) ∧ Ext W w' := by
  by_cases h1 : 43 < x1.length
  · exact torn_1 W hh x0 v1 x1 b1 x2 v3 x3 b3 x4 h1
  by_cases h2 : 43 < x3.length
  · exact torn_2 W hh x0 v1 x1 b1 x2 v3 x3 b3 x4 h1 h2
  by_cases h3 : TagMay x0
  · by_cases h4 : TagMay x2
    · by_cases h5 : x0 = x2
      · exact torn_5 W hh x0 v1 x1 b1 x2 v3 x3 b3 x4 h1 h2 h3 h4 h5
      by_cases h6 : x4 < 0
      · exact torn_6 W hh x0 v1 x1 b1 x2 v3 x3 b3 x4 h1 h2 h3 h4 h5 h6
      by_cases h7 : 64 < x4
      · exact torn_7 W hh x0 v1 x1 b1 x2 v3 x3 b3 x4 h1 h2 h3 h4 h5 h6 h7
      obtain ⟨m, rfl⟩ : ∃ n : Nat, x0 = n := ⟨x0.toNat, by have := h3.1; omega⟩
      obtain ⟨n, rfl⟩ : ∃ n : Nat, x2 = n := ⟨x2.toNat, by have := h4.1; omega⟩
      obtain ⟨k, rfl⟩ : ∃ n : Nat, x4 = n := ⟨x4.toNat, by omega⟩
      exact torn_yes W hh m n k v1 x1 b1 v3 x3 b3 (by omega) (by omega) h3 h4 (fun h => h5 (by rw [h])) (by omega)
    · exact torn_4 W hh x0 v1 x1 b1 x2 v3 x3 b3 x4 h1 h2 h3 h4
  · exact torn_3 W hh x0 v1 x1 b1 x2 v3 x3 b3 x4 h1 h2 h3
end Go.Proofs.YtklnbmcfnnmliaaDoor
