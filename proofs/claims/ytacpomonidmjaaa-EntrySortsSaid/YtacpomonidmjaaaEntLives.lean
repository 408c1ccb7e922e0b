/-
  Layer 7: what must come of every program.
-/
import Derived.Test.YtacpomonidmjaaaEntPackR
import Derived.Test.YtacpomonidmjaaaEntUn
import Derived.Test.YtacpomonidmjaaaEntAt
import Derived.Test.YtacpomonidmjaaaEntSorted
namespace Go.Proofs.Ytacpomonidmjaaa
open Go.RowKit Go.Ox Go.Shelf
set_option linter.unusedVariables false
set_option linter.unusedSimpArgs false

abbrev lA : Ent.E := ((1, 2), 3, 4)
abbrev lB : Ent.E := ((1, 1), 9, 9)
theorem live_may : Ent.may [lA, lB] = 0 := by decide +kernel
theorem live_asc : Ent.Asc [lB, lA] := by unfold Ent.Asc Ent.lt Mom.lt; decide
theorem live_srt : Ent.srt [lA, lB] = [lB, lA] := (Ent.srt_is live_asc (by decide)).symm
theorem live_put (n : Nat) (h : n < 240) : Num.put n = [UInt8.ofNat n] := by unfold Num.put; rw [if_pos h]
theorem live_enta : Ent.entL lA = [1, 2, 3, 4] := by
  unfold Ent.entL Rec.recL
  simp only [lA]
  rw [show (1 : Int).toNat = 1 from rfl, show (2 : Int).toNat = 2 from rfl, show (3 : Int).toNat = 3 from rfl, show (4 : Int).toNat = 4 from rfl, live_put 1 (by omega), live_put 2 (by omega), live_put 3 (by omega), live_put 4 (by omega)]
  rfl
theorem live_entb : Ent.entL lB = [1, 1, 9, 9] := by
  unfold Ent.entL Rec.recL
  simp only [lB]
  rw [show (1 : Int).toNat = 1 from rfl, show (9 : Int).toNat = 9 from rfl, live_put 1 (by omega), live_put 9 (by omega)]
  rfl
theorem live_pk : Ent.pkF [lA, lB] = [[1, 2, 3, 4, 1, 1, 9, 9]] := by
  unfold Ent.pkF
  simp only [List.foldl_cons, List.foldl_nil]
  rw [live_enta, live_entb]
  decide
theorem live_ok : ∀ x ∈ [lA], Ent.okE x = 0 := by decide +kernel
theorem live_un : un [1, 2, 3, 4] = some [lA] := by
  have h := un_flat live_ok
  rw [List.flatMap_cons, List.flatMap_nil, List.append_nil, live_enta] at h
  exact h
theorem live_un2 : un [1, 2, 3] = none := by
  cases h : un [1, 2, 3] with
  | none => rfl
  | some l =>
    obtain ⟨h1, h2⟩ := un_back 3 (Nat.le_refl _) h
    cases l with
    | nil => cases h2
    | cons x l =>
      have h3 := Ent.entL_len (h1 x List.mem_cons_self)
      have h4 := congrArg List.length h2
      rw [List.flatMap_cons, List.length_append] at h4
      simp at h4
      omega
theorem live_uE : unE [1, 2, 3, 4] = 0 ∧ unL [1, 2, 3, 4] = [lA] := unL_some (by decide) live_un
theorem live_uE2 : unE [1, 2, 3] = 10 ∧ unL [1, 2, 3] = [] := unL_none (by decide) live_un2
theorem live_size : sizeE lA = 4 := by unfold sizeE; rw [if_pos (by decide +kernel), live_enta]; rfl
theorem live_cmp : Ent.cmp lA lB = 1 := by decide +kernel
theorem live_at : Ent.atL [lB, lA] (1, 2) = [(3, 4)] := by decide +kernel
theorem live_bhd : (Ent.bhd [lB, lA] [(1, 2)]).length = 1 := by decide +kernel
theorem live_chk : Ent.okE ((-1, 0), 0, 0) = 40 := by decide +kernel
theorem live_b4 : (#[.int .u8 1, .int .u8 2, .int .u8 3, .int .u8 4] : Array Value).toList = ([1, 2, 3, 4] : List UInt8).map byteV := by unfold byteV n8; rfl
theorem live_b3 : (#[.int .u8 1, .int .u8 2, .int .u8 3] : Array Value).toList = ([1, 2, 3] : List UInt8).map byteV := by unfold byteV n8; rfl
theorem sameE_is (v u : Value) (l : List Ent.E) (w : World) (hv : RE w v l) (hu : RE w u l) : Calls Try.prog 17 #[v, u] w fun e w' => e = .returned (.bool true) ∧ Ext w w' := by
  refine (sameE_any v u l l w hv hu).mono ?_
  rw [decide_eq_true rfl]
  exact fun _ _ h => h
theorem entSorted_is (v : Value) (l : List Ent.E) (w : World) (hv : RE w v l) (hl : l.length ≤ 1000000) (ha : Ent.Asc l) :
    Calls Try.prog 15 #[v] w fun e w' => e = .returned (.bool true) ∧ Ext w w' := by
  refine (entSorted_any v l w hv hl).mono ?_
  rintro e w' ⟨b, rfl, hb, he⟩
  exact ⟨by rw [hb.2 ha], he⟩
/-- what lives looks at -/
structure LvI (w : World) (p q : Nat) (s : Value) : Prop where
  a : Bx4 w p 1 2 3 4
  b : Bx4 w q 1 1 9 9
  s : RE w s [lB, lA]
theorem LvI.ext {w w' : World} {p q : Nat} {s : Value} (h : LvI w p q s) (he : Ext w w') : LvI w' p q s := ⟨h.a.ext he, h.b.ext he, h.s.ext he⟩
attribute [local irreducible] RE RB RP
set_option maxRecDepth 100000 in
set_option maxHeartbeats 8000000 in
theorem lives_any (w : World) :
    Calls Try.prog 8 #[] w fun e w' => e = .returned (.bool true) ∧ Ext w w' := by
  have HSORT := Lib.hid (fun v w (h : RE w v [lA, lB]) => sortE_all v _ w h (by decide))
  rw [live_may, if_pos rfl, live_srt] at HSORT
  have HPACK := Lib.hid (fun v w (h : RE w v [lA, lB]) => pack_ok v _ w h live_may)
  rw [live_pk] at HPACK
  have HUN := Lib.hid (fun v w (h : RB w v [1, 2, 3, 4]) => unp_any v _ w h (by decide))
  rw [live_uE.1, live_uE.2] at HUN
  have HUN2 := Lib.hid (fun v w (h : RB w v [1, 2, 3]) => unp_any v _ w h (by decide))
  rw [live_uE2.1, live_uE2.2] at HUN2
  have HSIZE := Lib.hid (fun w => sizeE_any lA w)
  rw [live_size, show ((4 : Nat) : Int) = 4 from rfl] at HSIZE
  have HCMP := Lib.hid (fun w => compareE_any lA lB w)
  rw [live_cmp] at HCMP
  have HAT := Lib.hid (fun v w (h : RE w v [lB, lA]) => at_any v _ (1, 2) w h (by decide))
  rw [live_at] at HAT
  have HBH := Lib.hid (fun v u w (h : RE w v [lB, lA]) (k : RP w u [(1, 2)]) => behind_any v u _ _ w h k (by decide) (by decide))
  have hbl := live_bhd
  generalize Ent.bhd [lB, lA] [(1, 2)] = bh at *
  have HBL := Lib.hid hbl
  have HCK := Lib.hid (fun w => checkE_any ((-1, 0), 0, 0) w)
  rw [live_chk] at HCK
  have HA := Lib.hid (Bx4.new w 28 1 2 3 4)
  have HX0 := Lib.hid ((Ext.refl w).alloc (.cells #[.int .i64 1, .int .i64 2, .int .i64 3, .int .i64 4] 28))
  clear hbl
  go_enter Try.func8, Try.ntmps8
  go_upto_region 2 with fail
  generalize w.heap.size = p at *
  generalize w.alloc (.cells #[.int .i64 1, .int .i64 2, .int .i64 3, .int .i64 4] 28) = w0 at *
  have HB := Lib.hid (Bx4.new w0 28 1 1 9 9)
  have HXB := Lib.hid ((Ext.refl w0).alloc (.cells #[.int .i64 1, .int .i64 1, .int .i64 9, .int .i64 9] 28))
  go_upto_region 3 with fail
  generalize w0.heap.size = q at *
  generalize w0.alloc (.cells #[.int .i64 1, .int .i64 1, .int .i64 9, .int .i64 9] 28) = w1 at *
  have HA1 := Lib.hid (HA.out.ext HXB.out)
  have HX1 := Lib.hid (HX0.out.trans HXB.out)
  obtain ⟨c0, c1, c2, c3⟩ := HA1.out
  obtain ⟨d0, d1, d2, d3⟩ := HB.out
  clear HA HX0 HXB
  have HL := Lib.hid (RE.lit w1 #[.int .i64 1, .int .i64 2, .int .i64 3, .int .i64 4, .int .i64 1, .int .i64 1, .int .i64 9, .int .i64 9] 28 2 [lA, lB] rfl (by omega) rfl)
  have HXL := Lib.hid ((Ext.refl w1).alloc (.cells #[.int .i64 1, .int .i64 2, .int .i64 3, .int .i64 4, .int .i64 1, .int .i64 1, .int .i64 9, .int .i64 9] 28))
  go_wp2_with fail
  refine (HSORT.out _ _ HL.out).mono ?_
  rintro e w2 ⟨s, rfl, hs, he2⟩
  obtain ⟨As, cs, rfl⟩ : ∃ A c, s = .slice A 2 c := hs.form
  have HE2 := Lib.hid (HXL.out.trans he2)
  have HI2 := Lib.hid (LvI.mk (HA1.out.ext HE2.out) (HB.out.ext HE2.out) hs)
  have HX2 := Lib.hid (HX1.out.trans HE2.out)
  clear c0 c1 c2 c3 d0 d1 d2 d3 he2 hs HL HXL HA1 HB HX1 HE2
  obtain ⟨c0, c1, c2, c3⟩ := HI2.out.a
  obtain ⟨d0, d1, d2, d3⟩ := HI2.out.b
  have HL := Lib.hid (RE.lit w2 #[.int .i64 1, .int .i64 2, .int .i64 3, .int .i64 4, .int .i64 1, .int .i64 1, .int .i64 9, .int .i64 9] 28 2 [lA, lB] rfl (by omega) rfl)
  have HXL := Lib.hid ((Ext.refl w2).alloc (.cells #[.int .i64 1, .int .i64 2, .int .i64 3, .int .i64 4, .int .i64 1, .int .i64 1, .int .i64 9, .int .i64 9] 28))
  go_wp2_with fail
  refine (HPACK.out _ _ HL.out).mono ?_
  rintro e w3 ⟨pk, rfl, hp, he3⟩
  have HP3 := Lib.hid hp
  obtain ⟨Ap, cp, rfl⟩ : ∃ A c, pk = .slice A 1 c := hp.form
  have HI3 := Lib.hid (HI2.out.ext (HXL.out.trans he3))
  have HX3 := Lib.hid (HX2.out.trans (HXL.out.trans he3))
  clear c0 c1 c2 c3 d0 d1 d2 d3 he3 hp HL HXL HI2 HX2
  have HL := Lib.hid (RB.lit w3 #[.int .u8 1, .int .u8 2, .int .u8 3, .int .u8 4] 5 [1, 2, 3, 4] 4 rfl (by omega) live_b4)
  have HXL := Lib.hid ((Ext.refl w3).alloc (.cells #[.int .u8 1, .int .u8 2, .int .u8 3, .int .u8 4] 5))
  go_wp2_with fail
  refine (HUN.out _ _ HL.out).mono ?_
  rintro e w4 ⟨u, rfl, hu, he4⟩
  have HU4 := Lib.hid hu
  obtain ⟨Au, cu, rfl⟩ : ∃ A c, u = .slice A 1 c := hu.form
  have HE4 := Lib.hid (HXL.out.trans he4)
  have HI4 := Lib.hid (HI3.out.ext HE4.out)
  have HP4 := Lib.hid (HP3.out.ext (fun u x q => q.ext HE4.out) HE4.out)
  have HX4 := Lib.hid (HX3.out.trans HE4.out)
  clear he4 hu HL HXL HI3 HX3 HP3 HE4
  have HL := Lib.hid (RB.lit w4 #[.int .u8 1, .int .u8 2, .int .u8 3] 5 [1, 2, 3] 3 rfl (by omega) live_b3)
  have HXL := Lib.hid ((Ext.refl w4).alloc (.cells #[.int .u8 1, .int .u8 2, .int .u8 3] 5))
  go_wp2_with fail
  refine (HUN2.out _ _ HL.out).mono ?_
  rintro e w5 ⟨z, rfl, hz, he5⟩
  have HE5 := Lib.hid (HXL.out.trans he5)
  have HI5 := Lib.hid (HI4.out.ext HE5.out)
  have HP5 := Lib.hid (HP4.out.ext (fun u x q => q.ext HE5.out) HE5.out)
  have HU5 := Lib.hid (HU4.out.ext HE5.out)
  have HX5 := Lib.hid (HX4.out.trans HE5.out)
  clear he5 hz HL HXL HI4 HX4 HP4 HE5 HU4
  obtain ⟨c0, c1, c2, c3⟩ := HI5.out.a
  obtain ⟨d0, d1, d2, d3⟩ := HI5.out.b
  obtain ⟨bp, op, up, rfl, p0, hup⟩ := HP5.out.at_ (k := 0) (by decide)
  have p0 : w5.cell? ⟨bp, op, none⟩ = some up := p0
  obtain ⟨Aup, cup, rfl⟩ : ∃ A c, up = .slice A 8 c := RB.form hup
  have HUP := Lib.hid (show RB w5 (.slice Aup 8 cup) [1, 2, 3, 4, 1, 1, 9, 9] from hup)
  obtain ⟨bu, ou, rfl, u0, u1, u2, u3⟩ := re4 HU5.out (k := 0) (by decide)
  have u0 : w5.cell? ⟨bu, ou, none⟩ = some (.int .i64 1) := u0
  have u1 : w5.cell? ⟨bu, ou + 1, none⟩ = some (.int .i64 2) := u1
  have u2 : w5.cell? ⟨bu, ou + 2, none⟩ = some (.int .i64 3) := u2
  have u3 : w5.cell? ⟨bu, ou + 3, none⟩ = some (.int .i64 4) := u3
  have hq : ∀ w', (binOp .eql 28 (.agg #[.int .i64 1, .int .i64 2, .int .i64 3, .int .i64 4]) (.agg #[.int .i64 1, .int .i64 2, .int .i64 3, .int .i64 4])).run Try.prog w' = .ok (.bool true) w' := fun w' => eqE lA lA w'
  have HS := Lib.hid HI5.out.s
  clear hup
  go_wp2_with fail
  refine wp_regionY [] [] Ext Ext (fun _ => True) (by kernel_rfl) (by rfl) (by rfl) (by kernel_rfl) (by kernel_rfl) (by kernel_rfl) (fun _ _ _ x y => x.trans y) Ext.refl (fun _ _ x => x) (Ext.refl _).drew (fun _ _ x _ => x) trivial ?_
  repeat (first | (refine wpY_move0 rfl rfl (by first | exact runs0 | exact runs1 rfl) Ext.refl rfl rfl rfl ?_; apply Exists.intro; refine ⟨?_, ?_⟩; · (go_simp; rfl)) | (refine wpY_move rfl rfl (by first | exact runs0 | exact runs1 rfl) Ext.refl rfl rfl rfl (fun _ _ _ h _ => h) ?_) | (refine wpY_val rfl rfl (by first | exact runs0 | exact runs1 rfl) Ext.refl rfl ?_; apply Exists.intro; refine ⟨?_, ?_⟩; · (intro a w' hR; intro h1; (first | (have e1 : _ = _ := h1) | skip); intro h2; (first | (have e2 : _ = _ := h2) | skip); go_simp; rfl)) | (refine wpY_val rfl rfl (by first | exact runs0 | exact runs1 rfl) Ext.refl rfl ?_; apply Exists.intro; refine ⟨?_, ?_⟩; · (intro a w' hR; intro h1; (first | (have e1 : _ = _ := h1) | skip); go_simp; rfl)) | (refine wpY_val rfl rfl (by first | exact runs0 | exact runs1 rfl) Ext.refl rfl ?_; apply Exists.intro; refine ⟨?_, ?_⟩; · (intro a w' hR; go_simp; rfl)) | (refine wpY_val rfl rfl (by first | exact runs0 | exact runs1 rfl) Ext.refl rfl ?_; apply Exists.intro; refine ⟨?_, ?_⟩; · (intro a w' hR; intro h1; (first | (have e1 : _ = _ := h1) | skip); intro h2; (first | (have e2 : _ = _ := h2) | skip); intro h3; (first | (have e3 : _ = _ := h3) | skip); go_simp; rfl)) | (refine wpY_skip rfl rfl (by first | exact .inl rfl | exact .inr rfl) ?_))
  refine wpY_val rfl rfl (by first | exact runs0 | exact runs1 rfl) Ext.refl rfl ?_; apply Exists.intro; refine ⟨?_, ?_⟩
  · intro a w' hR h1
    have e1 : _ = _ := h1
    have hl0 := hR.cell d0
    have hl1 := hR.cell d1
    have hl2 := hR.cell d2
    have hl3 := hR.cell d3
    go_simp
    rfl
  refine wpY_val rfl rfl (by first | exact runs0 | exact runs1 rfl) Ext.refl rfl ?_; apply Exists.intro; refine ⟨?_, ?_⟩
  · intro a w' hR h1
    have e1 : _ = _ := h1
    have hl0 := hR.cell c0
    have hl1 := hR.cell c1
    have hl2 := hR.cell c2
    have hl3 := hR.cell c3
    go_simp
    rfl
  refine wpY_call (fun v w2 => RE w2 v [lB, lA]) rfl rfl (by first | exact runs0 | exact runs1 rfl) rfl (by first | exact mono_eq | exact (fun _ _ _ h k => Rd.ext h k) | exact (fun _ _ _ h k => RB.ext h k) | exact (fun _ _ _ h k => OB.ext h k) | exact (fun _ _ _ h k => RB.extS h k) | exact (fun _ _ _ h k => Rd.ext h (GrownW.ext k)) | exact (fun _ _ _ h k => RP.ext h k) | exact (fun _ _ _ h k => OP.ext h k) | exact (fun _ _ _ h k => Rd.extV h k) | exact (fun _ _ _ h k => RB.extV h k) | exact (fun _ _ _ h k => E0.ext h k) | exact (fun _ _ _ h k => O0.ext h k) | exact (fun _ _ _ h k => RE.ext h k) | exact (fun _ _ _ h k => RE.extD h k) | exact (fun _ _ _ h _ => h) | exact (fun _ _ _ ⟨n, h1, h2⟩ k => ⟨n, h1, k.st _ _ h2⟩)) ?_ ?_
  · intro a w' hR h1 h2 K hK
    have e1 : _ = _ := h1
    have e2 : _ = _ := h2
    have q1 : a.tmps[45]?.getD undef = .agg #[.int .i64 1, .int .i64 1, .int .i64 9, .int .i64 9] := by simpa using e1
    have q2 : a.tmps[46]?.getD undef = .agg #[.int .i64 1, .int .i64 2, .int .i64 3, .int .i64 4] := by simpa using e2
    go_simp
    exact hK _ _ ((Ext.refl _).alloc _) (RE.lit _ #[.int .i64 1, .int .i64 1, .int .i64 9, .int .i64 9, .int .i64 1, .int .i64 2, .int .i64 3, .int .i64 4] 28 2 [lB, lA] rfl (by omega) rfl)
  refine wpY_call (fun v _ => v = .bool true) rfl rfl (by first | exact runs0 | exact runs1 rfl) rfl (by first | exact mono_eq | exact (fun _ _ _ h k => Rd.ext h k) | exact (fun _ _ _ h k => RB.ext h k) | exact (fun _ _ _ h k => OB.ext h k) | exact (fun _ _ _ h k => RB.extS h k) | exact (fun _ _ _ h k => Rd.ext h (GrownW.ext k)) | exact (fun _ _ _ h k => RP.ext h k) | exact (fun _ _ _ h k => OP.ext h k) | exact (fun _ _ _ h k => Rd.extV h k) | exact (fun _ _ _ h k => RB.extV h k) | exact (fun _ _ _ h k => E0.ext h k) | exact (fun _ _ _ h k => O0.ext h k) | exact (fun _ _ _ h k => RE.ext h k) | exact (fun _ _ _ h k => RE.extD h k) | exact (fun _ _ _ h _ => h) | exact (fun _ _ _ ⟨n, h1, h2⟩ k => ⟨n, h1, k.st _ _ h2⟩)) ?_ ?_
  · intro a w' hR h1 h2 K hK
    have e1 : _ = _ := h1
    obtain ⟨x, ex, fx⟩ : ∃ x, a.tmps.getD 47 undef = x ∧ (fun v w2 => RE w2 v [lB, lA]) x w' := ⟨_, rfl, h2⟩
    go_simp
    refine (sameE_is _ _ _ w' (HS.out.ext hR) fx).mono ?_
    rintro e w2 ⟨rfl, he⟩
    exact hK _ _ he rfl
  repeat (first | (refine wpY_move0 rfl rfl (by first | exact runs0 | exact runs1 rfl) Ext.refl rfl rfl rfl ?_; apply Exists.intro; refine ⟨?_, ?_⟩; · (go_simp; rfl)) | (refine wpY_move rfl rfl (by first | exact runs0 | exact runs1 rfl) Ext.refl rfl rfl rfl (fun _ _ _ h _ => h) ?_) | (refine wpY_val rfl rfl (by first | exact runs0 | exact runs1 rfl) Ext.refl rfl ?_; apply Exists.intro; refine ⟨?_, ?_⟩; · (intro a w' hR; intro h1; (first | (have e1 : _ = _ := h1) | skip); intro h2; (first | (have e2 : _ = _ := h2) | skip); go_simp; rfl)) | (refine wpY_val rfl rfl (by first | exact runs0 | exact runs1 rfl) Ext.refl rfl ?_; apply Exists.intro; refine ⟨?_, ?_⟩; · (intro a w' hR; intro h1; (first | (have e1 : _ = _ := h1) | skip); go_simp; rfl)) | (refine wpY_val rfl rfl (by first | exact runs0 | exact runs1 rfl) Ext.refl rfl ?_; apply Exists.intro; refine ⟨?_, ?_⟩; · (intro a w' hR; go_simp; rfl)) | (refine wpY_val rfl rfl (by first | exact runs0 | exact runs1 rfl) Ext.refl rfl ?_; apply Exists.intro; refine ⟨?_, ?_⟩; · (intro a w' hR; intro h1; (first | (have e1 : _ = _ := h1) | skip); intro h2; (first | (have e2 : _ = _ := h2) | skip); intro h3; (first | (have e3 : _ = _ := h3) | skip); go_simp; rfl)) | (refine wpY_skip rfl rfl (by first | exact .inl rfl | exact .inr rfl) ?_))
  refine wpY_val rfl rfl (by first | exact runs0 | exact runs1 rfl) Ext.refl rfl ?_; apply Exists.intro; refine ⟨?_, ?_⟩
  · intro a w' hR h1
    have e1 : _ = _ := h1
    have hl0 := hR.cell p0
    go_simp
    rfl
  refine wpY_val rfl rfl (by first | exact runs0 | exact runs1 rfl) Ext.refl rfl ?_; apply Exists.intro; refine ⟨?_, ?_⟩
  · intro a w' hR h1
    have e1 : _ = _ := h1
    have hs := strB (HUP.out.ext hR)
    go_simp
    rfl
  repeat (first | (refine wpY_move0 rfl rfl (by first | exact runs0 | exact runs1 rfl) Ext.refl rfl rfl rfl ?_; apply Exists.intro; refine ⟨?_, ?_⟩; · (go_simp; rfl)) | (refine wpY_move rfl rfl (by first | exact runs0 | exact runs1 rfl) Ext.refl rfl rfl rfl (fun _ _ _ h _ => h) ?_) | (refine wpY_val rfl rfl (by first | exact runs0 | exact runs1 rfl) Ext.refl rfl ?_; apply Exists.intro; refine ⟨?_, ?_⟩; · (intro a w' hR; intro h1; (first | (have e1 : _ = _ := h1) | skip); intro h2; (first | (have e2 : _ = _ := h2) | skip); go_simp; rfl)) | (refine wpY_val rfl rfl (by first | exact runs0 | exact runs1 rfl) Ext.refl rfl ?_; apply Exists.intro; refine ⟨?_, ?_⟩; · (intro a w' hR; intro h1; (first | (have e1 : _ = _ := h1) | skip); go_simp; rfl)) | (refine wpY_val rfl rfl (by first | exact runs0 | exact runs1 rfl) Ext.refl rfl ?_; apply Exists.intro; refine ⟨?_, ?_⟩; · (intro a w' hR; go_simp; rfl)) | (refine wpY_val rfl rfl (by first | exact runs0 | exact runs1 rfl) Ext.refl rfl ?_; apply Exists.intro; refine ⟨?_, ?_⟩; · (intro a w' hR; intro h1; (first | (have e1 : _ = _ := h1) | skip); intro h2; (first | (have e2 : _ = _ := h2) | skip); intro h3; (first | (have e3 : _ = _ := h3) | skip); go_simp; rfl)) | (refine wpY_skip rfl rfl (by first | exact .inl rfl | exact .inr rfl) ?_))
  refine wpY_val rfl rfl (by first | exact runs0 | exact runs1 rfl) Ext.refl rfl ?_; apply Exists.intro; refine ⟨?_, ?_⟩
  · intro a w' hR h1
    have e1 : _ = _ := h1
    have hl0 := hR.cell u0
    have hl1 := hR.cell u1
    have hl2 := hR.cell u2
    have hl3 := hR.cell u3
    go_simp
    rfl
  refine wpY_val rfl rfl (by first | exact runs0 | exact runs1 rfl) Ext.refl rfl ?_; apply Exists.intro; refine ⟨?_, ?_⟩
  · intro a w' hR h1
    have e1 : _ = _ := h1
    have hl0 := hR.cell c0
    have hl1 := hR.cell c1
    have hl2 := hR.cell c2
    have hl3 := hR.cell c3
    go_simp
    rfl
  refine wpY_val rfl rfl (by first | exact runs0 | exact runs1 rfl) Ext.refl rfl ?_; apply Exists.intro; refine ⟨?_, ?_⟩
  · intro a w' hR h1 h2
    have e1 : _ = _ := h1
    have e2 : _ = _ := h2
    have hq9 := hq w'
    go_simp
    rfl
  repeat (first | (refine wpY_move0 rfl rfl (by first | exact runs0 | exact runs1 rfl) Ext.refl rfl rfl rfl ?_; apply Exists.intro; refine ⟨?_, ?_⟩; · (go_simp; rfl)) | (refine wpY_move rfl rfl (by first | exact runs0 | exact runs1 rfl) Ext.refl rfl rfl rfl (fun _ _ _ h _ => h) ?_) | (refine wpY_val rfl rfl (by first | exact runs0 | exact runs1 rfl) Ext.refl rfl ?_; apply Exists.intro; refine ⟨?_, ?_⟩; · (intro a w' hR; intro h1; (first | (have e1 : _ = _ := h1) | skip); intro h2; (first | (have e2 : _ = _ := h2) | skip); go_simp; rfl)) | (refine wpY_val rfl rfl (by first | exact runs0 | exact runs1 rfl) Ext.refl rfl ?_; apply Exists.intro; refine ⟨?_, ?_⟩; · (intro a w' hR; intro h1; (first | (have e1 : _ = _ := h1) | skip); go_simp; rfl)) | (refine wpY_val rfl rfl (by first | exact runs0 | exact runs1 rfl) Ext.refl rfl ?_; apply Exists.intro; refine ⟨?_, ?_⟩; · (intro a w' hR; go_simp; rfl)) | (refine wpY_val rfl rfl (by first | exact runs0 | exact runs1 rfl) Ext.refl rfl ?_; apply Exists.intro; refine ⟨?_, ?_⟩; · (intro a w' hR; intro h1; (first | (have e1 : _ = _ := h1) | skip); intro h2; (first | (have e2 : _ = _ := h2) | skip); intro h3; (first | (have e3 : _ = _ := h3) | skip); go_simp; rfl)) | (refine wpY_skip rfl rfl (by first | exact .inl rfl | exact .inr rfl) ?_))
  refine wpY_val rfl rfl (by first | exact runs0 | exact runs1 rfl) Ext.refl rfl ?_; apply Exists.intro; refine ⟨?_, ?_⟩
  · intro a w' hR h1
    have e1 : _ = _ := h1
    have hl0 := hR.cell c0
    have hl1 := hR.cell c1
    have hl2 := hR.cell c2
    have hl3 := hR.cell c3
    go_simp
    rfl
  refine wpY_call (fun v _ => v = .int .i64 4) rfl rfl (by first | exact runs0 | exact runs1 rfl) rfl (by first | exact mono_eq | exact (fun _ _ _ h k => Rd.ext h k) | exact (fun _ _ _ h k => RB.ext h k) | exact (fun _ _ _ h k => OB.ext h k) | exact (fun _ _ _ h k => RB.extS h k) | exact (fun _ _ _ h k => Rd.ext h (GrownW.ext k)) | exact (fun _ _ _ h k => RP.ext h k) | exact (fun _ _ _ h k => OP.ext h k) | exact (fun _ _ _ h k => Rd.extV h k) | exact (fun _ _ _ h k => RB.extV h k) | exact (fun _ _ _ h k => E0.ext h k) | exact (fun _ _ _ h k => O0.ext h k) | exact (fun _ _ _ h k => RE.ext h k) | exact (fun _ _ _ h k => RE.extD h k) | exact (fun _ _ _ h _ => h) | exact (fun _ _ _ ⟨n, h1, h2⟩ k => ⟨n, h1, k.st _ _ h2⟩)) ?_ ?_
  · intro a w' hR h1 K hK
    have e1 : _ = _ := h1
    go_simp
    refine (HSIZE.out w').mono ?_
    rintro e w2 ⟨rfl, he⟩
    exact hK _ _ he rfl
  repeat (first | (refine wpY_move0 rfl rfl (by first | exact runs0 | exact runs1 rfl) Ext.refl rfl rfl rfl ?_; apply Exists.intro; refine ⟨?_, ?_⟩; · (go_simp; rfl)) | (refine wpY_move rfl rfl (by first | exact runs0 | exact runs1 rfl) Ext.refl rfl rfl rfl (fun _ _ _ h _ => h) ?_) | (refine wpY_val rfl rfl (by first | exact runs0 | exact runs1 rfl) Ext.refl rfl ?_; apply Exists.intro; refine ⟨?_, ?_⟩; · (intro a w' hR; intro h1; (first | (have e1 : _ = _ := h1) | skip); intro h2; (first | (have e2 : _ = _ := h2) | skip); go_simp; rfl)) | (refine wpY_val rfl rfl (by first | exact runs0 | exact runs1 rfl) Ext.refl rfl ?_; apply Exists.intro; refine ⟨?_, ?_⟩; · (intro a w' hR; intro h1; (first | (have e1 : _ = _ := h1) | skip); go_simp; rfl)) | (refine wpY_val rfl rfl (by first | exact runs0 | exact runs1 rfl) Ext.refl rfl ?_; apply Exists.intro; refine ⟨?_, ?_⟩; · (intro a w' hR; go_simp; rfl)) | (refine wpY_val rfl rfl (by first | exact runs0 | exact runs1 rfl) Ext.refl rfl ?_; apply Exists.intro; refine ⟨?_, ?_⟩; · (intro a w' hR; intro h1; (first | (have e1 : _ = _ := h1) | skip); intro h2; (first | (have e2 : _ = _ := h2) | skip); intro h3; (first | (have e3 : _ = _ := h3) | skip); go_simp; rfl)) | (refine wpY_skip rfl rfl (by first | exact .inl rfl | exact .inr rfl) ?_))
  refine wpY_val rfl rfl (by first | exact runs0 | exact runs1 rfl) Ext.refl rfl ?_; apply Exists.intro; refine ⟨?_, ?_⟩
  · intro a w' hR h1
    have e1 : _ = _ := h1
    have hl0 := hR.cell c0
    have hl1 := hR.cell c1
    have hl2 := hR.cell c2
    have hl3 := hR.cell c3
    go_simp
    rfl
  refine wpY_val rfl rfl (by first | exact runs0 | exact runs1 rfl) Ext.refl rfl ?_; apply Exists.intro; refine ⟨?_, ?_⟩
  · intro a w' hR h1
    have e1 : _ = _ := h1
    have hl0 := hR.cell d0
    have hl1 := hR.cell d1
    have hl2 := hR.cell d2
    have hl3 := hR.cell d3
    go_simp
    rfl
  refine wpY_call (fun v _ => v = .int .i64 1) rfl rfl (by first | exact runs0 | exact runs1 rfl) rfl (by first | exact mono_eq | exact (fun _ _ _ h k => Rd.ext h k) | exact (fun _ _ _ h k => RB.ext h k) | exact (fun _ _ _ h k => OB.ext h k) | exact (fun _ _ _ h k => RB.extS h k) | exact (fun _ _ _ h k => Rd.ext h (GrownW.ext k)) | exact (fun _ _ _ h k => RP.ext h k) | exact (fun _ _ _ h k => OP.ext h k) | exact (fun _ _ _ h k => Rd.extV h k) | exact (fun _ _ _ h k => RB.extV h k) | exact (fun _ _ _ h k => E0.ext h k) | exact (fun _ _ _ h k => O0.ext h k) | exact (fun _ _ _ h k => RE.ext h k) | exact (fun _ _ _ h k => RE.extD h k) | exact (fun _ _ _ h _ => h) | exact (fun _ _ _ ⟨n, h1, h2⟩ k => ⟨n, h1, k.st _ _ h2⟩)) ?_ ?_
  · intro a w' hR h1 h2 K hK
    have e1 : _ = _ := h1
    have e2 : _ = _ := h2
    go_simp
    refine (HCMP.out w').mono ?_
    rintro e w2 ⟨rfl, he⟩
    exact hK _ _ he rfl
  repeat (first | (refine wpY_move0 rfl rfl (by first | exact runs0 | exact runs1 rfl) Ext.refl rfl rfl rfl ?_; apply Exists.intro; refine ⟨?_, ?_⟩; · (go_simp; rfl)) | (refine wpY_move rfl rfl (by first | exact runs0 | exact runs1 rfl) Ext.refl rfl rfl rfl (fun _ _ _ h _ => h) ?_) | (refine wpY_val rfl rfl (by first | exact runs0 | exact runs1 rfl) Ext.refl rfl ?_; apply Exists.intro; refine ⟨?_, ?_⟩; · (intro a w' hR; intro h1; (first | (have e1 : _ = _ := h1) | skip); intro h2; (first | (have e2 : _ = _ := h2) | skip); go_simp; rfl)) | (refine wpY_val rfl rfl (by first | exact runs0 | exact runs1 rfl) Ext.refl rfl ?_; apply Exists.intro; refine ⟨?_, ?_⟩; · (intro a w' hR; intro h1; (first | (have e1 : _ = _ := h1) | skip); go_simp; rfl)) | (refine wpY_val rfl rfl (by first | exact runs0 | exact runs1 rfl) Ext.refl rfl ?_; apply Exists.intro; refine ⟨?_, ?_⟩; · (intro a w' hR; go_simp; rfl)) | (refine wpY_val rfl rfl (by first | exact runs0 | exact runs1 rfl) Ext.refl rfl ?_; apply Exists.intro; refine ⟨?_, ?_⟩; · (intro a w' hR; intro h1; (first | (have e1 : _ = _ := h1) | skip); intro h2; (first | (have e2 : _ = _ := h2) | skip); intro h3; (first | (have e3 : _ = _ := h3) | skip); go_simp; rfl)) | (refine wpY_skip rfl rfl (by first | exact .inl rfl | exact .inr rfl) ?_))
  refine wpY_call (fun v _ => v = .bool true) rfl rfl (by first | exact runs0 | exact runs1 rfl) rfl (by first | exact mono_eq | exact (fun _ _ _ h k => Rd.ext h k) | exact (fun _ _ _ h k => RB.ext h k) | exact (fun _ _ _ h k => OB.ext h k) | exact (fun _ _ _ h k => RB.extS h k) | exact (fun _ _ _ h k => Rd.ext h (GrownW.ext k)) | exact (fun _ _ _ h k => RP.ext h k) | exact (fun _ _ _ h k => OP.ext h k) | exact (fun _ _ _ h k => Rd.extV h k) | exact (fun _ _ _ h k => RB.extV h k) | exact (fun _ _ _ h k => E0.ext h k) | exact (fun _ _ _ h k => O0.ext h k) | exact (fun _ _ _ h k => RE.ext h k) | exact (fun _ _ _ h k => RE.extD h k) | exact (fun _ _ _ h _ => h) | exact (fun _ _ _ ⟨n, h1, h2⟩ k => ⟨n, h1, k.st _ _ h2⟩)) ?_ ?_
  · intro a w' hR h1 K hK
    have e1 : _ = _ := h1
    go_simp
    refine (entSorted_is _ _ w' (HS.out.ext hR) (by decide) live_asc).mono ?_
    rintro e w2 ⟨rfl, he⟩
    exact hK _ _ he rfl
  repeat (first | (refine wpY_move0 rfl rfl (by first | exact runs0 | exact runs1 rfl) Ext.refl rfl rfl rfl ?_; apply Exists.intro; refine ⟨?_, ?_⟩; · (go_simp; rfl)) | (refine wpY_move rfl rfl (by first | exact runs0 | exact runs1 rfl) Ext.refl rfl rfl rfl (fun _ _ _ h _ => h) ?_) | (refine wpY_val rfl rfl (by first | exact runs0 | exact runs1 rfl) Ext.refl rfl ?_; apply Exists.intro; refine ⟨?_, ?_⟩; · (intro a w' hR; intro h1; (first | (have e1 : _ = _ := h1) | skip); intro h2; (first | (have e2 : _ = _ := h2) | skip); go_simp; rfl)) | (refine wpY_val rfl rfl (by first | exact runs0 | exact runs1 rfl) Ext.refl rfl ?_; apply Exists.intro; refine ⟨?_, ?_⟩; · (intro a w' hR; intro h1; (first | (have e1 : _ = _ := h1) | skip); go_simp; rfl)) | (refine wpY_val rfl rfl (by first | exact runs0 | exact runs1 rfl) Ext.refl rfl ?_; apply Exists.intro; refine ⟨?_, ?_⟩; · (intro a w' hR; go_simp; rfl)) | (refine wpY_val rfl rfl (by first | exact runs0 | exact runs1 rfl) Ext.refl rfl ?_; apply Exists.intro; refine ⟨?_, ?_⟩; · (intro a w' hR; intro h1; (first | (have e1 : _ = _ := h1) | skip); intro h2; (first | (have e2 : _ = _ := h2) | skip); intro h3; (first | (have e3 : _ = _ := h3) | skip); go_simp; rfl)) | (refine wpY_skip rfl rfl (by first | exact .inl rfl | exact .inr rfl) ?_))
  refine wpY_val rfl rfl (by first | exact runs0 | exact runs1 rfl) Ext.refl rfl ?_; apply Exists.intro; refine ⟨?_, ?_⟩
  · intro a w' hR h1
    have e1 : _ = _ := h1
    have hl0 := hR.cell c0
    have hl1 := hR.cell c1
    go_simp
    rfl
  refine wpY_call (fun v _ => ∃ A c, v = .slice A 1 c) rfl rfl (by first | exact runs0 | exact runs1 rfl) rfl (by first | exact mono_eq | exact (fun _ _ _ h k => Rd.ext h k) | exact (fun _ _ _ h k => RB.ext h k) | exact (fun _ _ _ h k => OB.ext h k) | exact (fun _ _ _ h k => RB.extS h k) | exact (fun _ _ _ h k => Rd.ext h (GrownW.ext k)) | exact (fun _ _ _ h k => RP.ext h k) | exact (fun _ _ _ h k => OP.ext h k) | exact (fun _ _ _ h k => Rd.extV h k) | exact (fun _ _ _ h k => RB.extV h k) | exact (fun _ _ _ h k => E0.ext h k) | exact (fun _ _ _ h k => O0.ext h k) | exact (fun _ _ _ h k => RE.ext h k) | exact (fun _ _ _ h k => RE.extD h k) | exact (fun _ _ _ h _ => h) | exact (fun _ _ _ ⟨n, h1, h2⟩ k => ⟨n, h1, k.st _ _ h2⟩)) ?_ ?_
  · intro a w' hR h1 h2 K hK
    have e1 : _ = _ := h1
    have e2 : _ = _ := h2
    go_simp
    refine (HAT.out _ w' (HS.out.ext hR)).mono ?_
    rintro e w2 ⟨x, rfl, hx, he⟩
    exact hK _ _ he hx.rp.form
  refine wpY_val rfl rfl (by first | exact runs0 | exact runs1 rfl) Ext.refl rfl ?_; apply Exists.intro; refine ⟨?_, ?_⟩
  · intro a w' hR h1
    obtain ⟨A9, c9, e1⟩ := h1
    have e1 : _ = _ := e1
    go_simp
    rfl
  repeat (first | (refine wpY_move0 rfl rfl (by first | exact runs0 | exact runs1 rfl) Ext.refl rfl rfl rfl ?_; apply Exists.intro; refine ⟨?_, ?_⟩; · (go_simp; rfl)) | (refine wpY_move rfl rfl (by first | exact runs0 | exact runs1 rfl) Ext.refl rfl rfl rfl (fun _ _ _ h _ => h) ?_) | (refine wpY_val rfl rfl (by first | exact runs0 | exact runs1 rfl) Ext.refl rfl ?_; apply Exists.intro; refine ⟨?_, ?_⟩; · (intro a w' hR; intro h1; (first | (have e1 : _ = _ := h1) | skip); intro h2; (first | (have e2 : _ = _ := h2) | skip); go_simp; rfl)) | (refine wpY_val rfl rfl (by first | exact runs0 | exact runs1 rfl) Ext.refl rfl ?_; apply Exists.intro; refine ⟨?_, ?_⟩; · (intro a w' hR; intro h1; (first | (have e1 : _ = _ := h1) | skip); go_simp; rfl)) | (refine wpY_val rfl rfl (by first | exact runs0 | exact runs1 rfl) Ext.refl rfl ?_; apply Exists.intro; refine ⟨?_, ?_⟩; · (intro a w' hR; go_simp; rfl)) | (refine wpY_val rfl rfl (by first | exact runs0 | exact runs1 rfl) Ext.refl rfl ?_; apply Exists.intro; refine ⟨?_, ?_⟩; · (intro a w' hR; intro h1; (first | (have e1 : _ = _ := h1) | skip); intro h2; (first | (have e2 : _ = _ := h2) | skip); intro h3; (first | (have e3 : _ = _ := h3) | skip); go_simp; rfl)) | (refine wpY_skip rfl rfl (by first | exact .inl rfl | exact .inr rfl) ?_))
  refine wpY_val rfl rfl (by first | exact runs0 | exact runs1 rfl) Ext.refl rfl ?_; apply Exists.intro; refine ⟨?_, ?_⟩
  · intro a w' hR h1
    have e1 : _ = _ := h1
    have hl0 := hR.cell c0
    have hl1 := hR.cell c1
    go_simp
    rfl
  refine wpY_call (fun v w2 => RP w2 v [(1, 2)]) rfl rfl (by first | exact runs0 | exact runs1 rfl) rfl (by first | exact mono_eq | exact (fun _ _ _ h k => Rd.ext h k) | exact (fun _ _ _ h k => RB.ext h k) | exact (fun _ _ _ h k => OB.ext h k) | exact (fun _ _ _ h k => RB.extS h k) | exact (fun _ _ _ h k => Rd.ext h (GrownW.ext k)) | exact (fun _ _ _ h k => RP.ext h k) | exact (fun _ _ _ h k => OP.ext h k) | exact (fun _ _ _ h k => Rd.extV h k) | exact (fun _ _ _ h k => RB.extV h k) | exact (fun _ _ _ h k => E0.ext h k) | exact (fun _ _ _ h k => O0.ext h k) | exact (fun _ _ _ h k => RE.ext h k) | exact (fun _ _ _ h k => RE.extD h k) | exact (fun _ _ _ h _ => h) | exact (fun _ _ _ ⟨n, h1, h2⟩ k => ⟨n, h1, k.st _ _ h2⟩)) ?_ ?_
  · intro a w' hR h1 K hK
    have e1 : _ = _ := h1
    have q1 : a.tmps[112]?.getD undef = .agg #[.int .i64 1, .int .i64 2] := by simpa using e1
    go_simp
    exact hK _ _ ((Ext.refl _).alloc _) (RP.lit _ #[.int .i64 1, .int .i64 2] 24 1 [(1, 2)] rfl (by omega) rfl)
  refine wpY_call (fun v _ => ∃ A c, v = .slice A 1 c) rfl rfl (by first | exact runs0 | exact runs1 rfl) rfl (by first | exact mono_eq | exact (fun _ _ _ h k => Rd.ext h k) | exact (fun _ _ _ h k => RB.ext h k) | exact (fun _ _ _ h k => OB.ext h k) | exact (fun _ _ _ h k => RB.extS h k) | exact (fun _ _ _ h k => Rd.ext h (GrownW.ext k)) | exact (fun _ _ _ h k => RP.ext h k) | exact (fun _ _ _ h k => OP.ext h k) | exact (fun _ _ _ h k => Rd.extV h k) | exact (fun _ _ _ h k => RB.extV h k) | exact (fun _ _ _ h k => E0.ext h k) | exact (fun _ _ _ h k => O0.ext h k) | exact (fun _ _ _ h k => RE.ext h k) | exact (fun _ _ _ h k => RE.extD h k) | exact (fun _ _ _ h _ => h) | exact (fun _ _ _ ⟨n, h1, h2⟩ k => ⟨n, h1, k.st _ _ h2⟩)) ?_ ?_
  · intro a w' hR h1 h2 K hK
    have e1 : _ = _ := h1
    obtain ⟨x, ex, fx⟩ : ∃ x, a.tmps.getD 113 undef = x ∧ (fun v w2 => RP w2 v [(1, 2)]) x w' := ⟨_, rfl, h2⟩
    go_simp
    refine (HBH.out _ _ w' (HS.out.ext hR) fx).mono ?_
    rintro e w2 ⟨y, rfl, hy, he⟩
    exact hK _ _ he (by obtain ⟨A, c, q⟩ := hy.form; rw [HBL.out] at q; exact ⟨A, c, q⟩)
  refine wpY_val rfl rfl (by first | exact runs0 | exact runs1 rfl) Ext.refl rfl ?_; apply Exists.intro; refine ⟨?_, ?_⟩
  · intro a w' hR h1
    obtain ⟨A9, c9, e1⟩ := h1
    have e1 : _ = _ := e1
    go_simp
    rfl
  repeat (first | (refine wpY_move0 rfl rfl (by first | exact runs0 | exact runs1 rfl) Ext.refl rfl rfl rfl ?_; apply Exists.intro; refine ⟨?_, ?_⟩; · (go_simp; rfl)) | (refine wpY_move rfl rfl (by first | exact runs0 | exact runs1 rfl) Ext.refl rfl rfl rfl (fun _ _ _ h _ => h) ?_) | (refine wpY_val rfl rfl (by first | exact runs0 | exact runs1 rfl) Ext.refl rfl ?_; apply Exists.intro; refine ⟨?_, ?_⟩; · (intro a w' hR; intro h1; (first | (have e1 : _ = _ := h1) | skip); intro h2; (first | (have e2 : _ = _ := h2) | skip); go_simp; rfl)) | (refine wpY_val rfl rfl (by first | exact runs0 | exact runs1 rfl) Ext.refl rfl ?_; apply Exists.intro; refine ⟨?_, ?_⟩; · (intro a w' hR; intro h1; (first | (have e1 : _ = _ := h1) | skip); go_simp; rfl)) | (refine wpY_val rfl rfl (by first | exact runs0 | exact runs1 rfl) Ext.refl rfl ?_; apply Exists.intro; refine ⟨?_, ?_⟩; · (intro a w' hR; go_simp; rfl)) | (refine wpY_val rfl rfl (by first | exact runs0 | exact runs1 rfl) Ext.refl rfl ?_; apply Exists.intro; refine ⟨?_, ?_⟩; · (intro a w' hR; intro h1; (first | (have e1 : _ = _ := h1) | skip); intro h2; (first | (have e2 : _ = _ := h2) | skip); intro h3; (first | (have e3 : _ = _ := h3) | skip); go_simp; rfl)) | (refine wpY_skip rfl rfl (by first | exact .inl rfl | exact .inr rfl) ?_))
  refine wpY_val rfl rfl (by first | exact runs0 | exact runs1 rfl) Ext.refl rfl ?_; apply Exists.intro; refine ⟨?_, ?_⟩
  · intro a w' hR h1
    have e1 : _ = _ := h1
    have q1 := e1; rw [Array.getD_eq_getD_getElem?] at q1
    go_simp
    rfl
  refine wpY_call (fun v _ => v = .int .i64 40) rfl rfl (by first | exact runs0 | exact runs1 rfl) rfl (by first | exact mono_eq | exact (fun _ _ _ h k => Rd.ext h k) | exact (fun _ _ _ h k => RB.ext h k) | exact (fun _ _ _ h k => OB.ext h k) | exact (fun _ _ _ h k => RB.extS h k) | exact (fun _ _ _ h k => Rd.ext h (GrownW.ext k)) | exact (fun _ _ _ h k => RP.ext h k) | exact (fun _ _ _ h k => OP.ext h k) | exact (fun _ _ _ h k => Rd.extV h k) | exact (fun _ _ _ h k => RB.extV h k) | exact (fun _ _ _ h k => E0.ext h k) | exact (fun _ _ _ h k => O0.ext h k) | exact (fun _ _ _ h k => RE.ext h k) | exact (fun _ _ _ h k => RE.extD h k) | exact (fun _ _ _ h _ => h) | exact (fun _ _ _ ⟨n, h1, h2⟩ k => ⟨n, h1, k.st _ _ h2⟩)) ?_ ?_
  · intro a w' hR h1 K hK
    have e1 : _ = _ := h1
    go_simp
    refine (HCK.out w').mono ?_
    rintro e w2 ⟨rfl, he⟩
    exact hK _ _ he rfl
  repeat (first | (refine wpY_move0 rfl rfl (by first | exact runs0 | exact runs1 rfl) Ext.refl rfl rfl rfl ?_; apply Exists.intro; refine ⟨?_, ?_⟩; · (go_simp; rfl)) | (refine wpY_move rfl rfl (by first | exact runs0 | exact runs1 rfl) Ext.refl rfl rfl rfl (fun _ _ _ h _ => h) ?_) | (refine wpY_val rfl rfl (by first | exact runs0 | exact runs1 rfl) Ext.refl rfl ?_; apply Exists.intro; refine ⟨?_, ?_⟩; · (intro a w' hR; intro h1; (first | (have e1 : _ = _ := h1) | skip); intro h2; (first | (have e2 : _ = _ := h2) | skip); go_simp; rfl)) | (refine wpY_val rfl rfl (by first | exact runs0 | exact runs1 rfl) Ext.refl rfl ?_; apply Exists.intro; refine ⟨?_, ?_⟩; · (intro a w' hR; intro h1; (first | (have e1 : _ = _ := h1) | skip); go_simp; rfl)) | (refine wpY_val rfl rfl (by first | exact runs0 | exact runs1 rfl) Ext.refl rfl ?_; apply Exists.intro; refine ⟨?_, ?_⟩; · (intro a w' hR; go_simp; rfl)) | (refine wpY_val rfl rfl (by first | exact runs0 | exact runs1 rfl) Ext.refl rfl ?_; apply Exists.intro; refine ⟨?_, ?_⟩; · (intro a w' hR; intro h1; (first | (have e1 : _ = _ := h1) | skip); intro h2; (first | (have e2 : _ = _ := h2) | skip); intro h3; (first | (have e3 : _ = _ := h3) | skip); go_simp; rfl)) | (refine wpY_skip rfl rfl (by first | exact .inl rfl | exact .inr rfl) ?_))
  refine wpY_done ?_
  intro w7 hx7 hS
  iterate 6 (rintro _ rfl)
  rintro v47 h47
  iterate 57 (rintro _ rfl)
  rintro v105 h105
  iterate 7 (rintro _ rfl)
  rintro v113 h113
  rintro v114 h114
  iterate 9 (rintro _ rfl)
  dsimp only [FinV]
  go_simp
  go_wp2
  go_ret
  exact ⟨rfl, HX5.out.trans hx7⟩
end Go.Proofs.Ytacpomonidmjaaa
