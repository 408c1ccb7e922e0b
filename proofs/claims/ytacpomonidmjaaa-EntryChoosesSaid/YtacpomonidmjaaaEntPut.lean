/-
  An entry's bytes: entry.put, Size; the document's Put.
-/
import Derived.Test.YtacpomonidmjaaaEntMay
import Derived.Test.YtacpomonidmjaaaMomPut
import Derived.Test.YtacpomonidmjaaaMomPut2
import Derived.Test.YtacpomonidmjaaaRecPut
namespace Go.Ox.Ent
/-- an entry's bytes -/
def entL (e : E) : List UInt8 := Rec.recL e.1 ++ Rec.recL e.2
theorem mok_bd {m : Int × Int} (h : Mom.ok m = true) : 0 ≤ m.1 ∧ m.1 < 65536 ∧ 0 ≤ m.2 ∧ m.2 < 65536 := by
  unfold Mom.ok at h; simp at h; omega
theorem okE_bd {e : E} (h : okE e = 0) : (0 ≤ e.1.1 ∧ e.1.1 < 65536 ∧ 0 ≤ e.1.2 ∧ e.1.2 < 65536) ∧ (0 ≤ e.2.1 ∧ e.2.1 < 1048576 ∧ 0 ≤ e.2.2 ∧ e.2.2 < 1048576) := by
  obtain ⟨h1, h2⟩ := okE_0 h
  exact ⟨mok_bd h1, Rec.ok_bd h2⟩
theorem entL_len {e : E} (h : okE e = 0) : 4 ≤ (entL e).length ∧ (entL e).length ≤ 16 := by
  obtain ⟨h1, h2⟩ := okE_bd h
  have a := Rec.put_le8 (n := e.1.1.toNat) (by omega)
  have b := Rec.put_le8 (n := e.1.2.toNat) (by omega)
  have c := Rec.put_le8 (n := e.2.1.toNat) (by omega)
  have d := Rec.put_le8 (n := e.2.2.toNat) (by omega)
  unfold entL Rec.recL
  simp only [List.length_append]
  omega
end Go.Ox.Ent
namespace Go.Proofs.Ytacpomonidmjaaa
open Go.RowKit Go.Ox Go.Shelf
attribute [local irreducible] OB RB
set_option linter.unusedVariables false
set_option linter.unusedSimpArgs false

theorem mput_mom (m : Int × Int) (w : World) (h : Mom.ok m = true) : Calls Try.prog 64 #[mV m] w fun e w' => ∃ u, e = .returned (.tuple #[u, .int .i64 0]) ∧ OB 5 w.heap.size w' u (Rec.recL m) ∧ Ext w w' := by
  have hb := Ent.mok_bd h
  unfold Rec.recL
  obtain ⟨x, y⟩ := m
  obtain ⟨x, rfl⟩ : ∃ n : Nat, x = n := ⟨x.toNat, by simp only at hb; omega⟩
  obtain ⟨y, rfl⟩ : ∃ n : Nat, y = n := ⟨y.toNat, by simp only at hb; omega⟩
  simp only at hb
  refine (Mo.mput_any x y w (by omega) (by omega)).mono ?_
  rintro e w' ⟨v, rfl, ho, he⟩
  exact ⟨v, rfl, by simpa using ho, he⟩
theorem mput_rec (r : Rec.R) (w : World) (h : Rec.ok r = true) : Calls Try.prog 65 #[mV r] w fun e w' => ∃ u, e = .returned (.tuple #[u, .int .i64 0]) ∧ OB 5 w.heap.size w' u (Rec.recL r) ∧ Ext w w' := by
  have hb := Rec.ok_bd h
  unfold Rec.recL
  obtain ⟨x, y⟩ := r
  obtain ⟨x, rfl⟩ : ∃ n : Nat, x = n := ⟨x.toNat, by simp only at hb; omega⟩
  obtain ⟨y, rfl⟩ : ∃ n : Nat, y = n := ⟨y.toNat, by simp only at hb; omega⟩
  simp only at hb
  refine (mput_any x y w (by omega) (by omega)).mono ?_
  rintro e w' ⟨v, rfl, ho, he⟩
  exact ⟨v, rfl, by simpa using ho, he⟩
theorem rmput_mom (m : Int × Int) (w : World) (h : Mom.ok m = true) : Calls Try.prog 45 #[mV m] w fun e w' => ∃ u, e = .returned u ∧ OB 5 w.heap.size w' u (Rec.recL m) ∧ Ext w w' := by
  have hb := Ent.mok_bd h
  unfold Rec.recL
  obtain ⟨x, y⟩ := m
  obtain ⟨x, rfl⟩ : ∃ n : Nat, x = n := ⟨x.toNat, by simp only at hb; omega⟩
  obtain ⟨y, rfl⟩ : ∃ n : Nat, y = n := ⟨y.toNat, by simp only at hb; omega⟩
  simp only at hb
  refine (Mo.rmput_any x y w (by omega) (by omega)).mono ?_
  rintro e w' ⟨v, rfl, ho, he⟩
  exact ⟨v, rfl, by simpa using ho, he⟩
theorem rmput_rec (r : Rec.R) (w : World) (h : Rec.ok r = true) : Calls Try.prog 46 #[mV r] w fun e w' => ∃ u, e = .returned u ∧ OB 5 w.heap.size w' u (Rec.recL r) ∧ Ext w w' := by
  have hb := Rec.ok_bd h
  unfold Rec.recL
  obtain ⟨x, y⟩ := r
  obtain ⟨x, rfl⟩ : ∃ n : Nat, x = n := ⟨x.toNat, by simp only at hb; omega⟩
  obtain ⟨y, rfl⟩ : ∃ n : Nat, y = n := ⟨y.toNat, by simp only at hb; omega⟩
  simp only at hb
  refine (rmput_any x y w (by omega) (by omega)).mono ?_
  rintro e w' ⟨v, rfl, ho, he⟩
  exact ⟨v, rfl, by simpa using ho, he⟩

set_option maxRecDepth 100000 in
set_option maxHeartbeats 1000000 in
theorem putE_any (x : Ent.E) (w : World) (h : Ent.okE x = 0) : Calls Try.prog 47 #[entV x] w fun e w' => ∃ u, e = .returned u ∧ OB 5 w.heap.size w' u (Ent.entL x) ∧ Ext w w' := by
  obtain ⟨k1, k2⟩ := Ent.okE_0 h
  have hlen := Ent.entL_len h
  have HM := Lib.hid (fun w => mput_mom x.1 w k1)
  have HR := Lib.hid (fun w => mput_rec x.2 w k2)
  have HF := Lib.hid (show [Rec.recL x.1, Rec.recL x.2].flatten = Ent.entL x by unfold Ent.entL; simp)
  have HFL := Lib.hid (show ([Rec.recL x.1, Rec.recL x.2].flatten).length ≤ 1099511627776 by rw [HF.out]; omega)
  generalize Ent.entL x = xl at *
  generalize Rec.recL x.1 = ml at *
  generalize Rec.recL x.2 = rl at *
  obtain ⟨⟨x1, x2⟩, x3, x4⟩ := x
  dsimp only at *
  have HB := Lib.hid (Bx4.new w 28 x1 x2 x3 x4)
  have HX := Lib.hid ((Ext.refl w).alloc (.cells #[.int .i64 x1, .int .i64 x2, .int .i64 x3, .int .i64 x4] 28))
  obtain ⟨c0, c1, c2, c3⟩ := HB.out
  clear h k1 k2 hlen
  go_enter Try.func47, Try.ntmps47
  go_wp2_with fail
  refine (HM.out _).mono ?_
  rintro e w1 ⟨v1, rfl, ho1, he1⟩
  have HO1 := Lib.hid ho1
  obtain ⟨A1, n1, rfl⟩ := ho1.form
  have HX1 := Lib.hid (HX.out.trans he1)
  have c2 := he1.cell c2
  have c3 := he1.cell c3
  clear ho1 he1 c0 c1
  go_wp2_with fail
  refine (HR.out _).mono ?_
  rintro e w2 ⟨v2, rfl, ho2, he2⟩
  have HO2 := Lib.hid ho2
  obtain ⟨A2, n2, rfl⟩ := ho2.form
  have HX2 := Lib.hid (HX1.out.trans he2)
  have HO1 := Lib.hid (HO1.out.ext he2)
  clear ho2 he2 c2 c3
  go_wp2_with fail
  refine (concat_any _ [ml, rl] _ (RBs.lit2 _ HO1.out.rb HO2.out.rb) HFL.out).mono ?_
  rintro e w4 ⟨v4, rfl, ho4, he4⟩
  rw [HF.out] at ho4
  obtain ⟨A4, k4, rfl⟩ := ho4.form
  go_wp2_with fail
  go_ret
  have h9 := ho4.low ((HX2.out.alloc _).size)
  exact ⟨_, rfl, h9, (HX2.out.alloc _).trans he4⟩
set_option maxRecDepth 100000 in
set_option maxHeartbeats 1000000 in
theorem rputE_any (x : Ent.E) (w : World) (h : Ent.okE x = 0) : Calls Try.prog 18 #[entV x] w fun e w' => ∃ u, e = .returned u ∧ OB 5 w.heap.size w' u (Ent.entL x) ∧ Ext w w' := by
  obtain ⟨k1, k2⟩ := Ent.okE_0 h
  have hlen := Ent.entL_len h
  have HM := Lib.hid (fun w => rmput_mom x.1 w k1)
  have HR := Lib.hid (fun w => rmput_rec x.2 w k2)
  have HF := Lib.hid (show Rec.recL x.1 ++ Rec.recL x.2 = Ent.entL x from rfl)
  have HFL := Lib.hid (show (Rec.recL x.1).length + (Rec.recL x.2).length ≤ 1000 by have := congrArg List.length HF.out; rw [List.length_append] at this; omega)
  generalize Ent.entL x = xl at *
  generalize Rec.recL x.1 = ml at *
  generalize Rec.recL x.2 = rl at *
  obtain ⟨⟨x1, x2⟩, x3, x4⟩ := x
  dsimp only at *
  have HB := Lib.hid (Bx4.new w 28 x1 x2 x3 x4)
  have HX := Lib.hid ((Ext.refl w).alloc (.cells #[.int .i64 x1, .int .i64 x2, .int .i64 x3, .int .i64 x4] 28))
  have HSZ := Lib.hid HX.out.size
  obtain ⟨c0, c1, c2, c3⟩ := HB.out
  clear h k1 k2 hlen
  go_enter Try.func18, Try.ntmps18
  go_wp2
  refine wp_region_tailY 6 [] [] Ext Ext (fun _ => True) (by kernel_rfl) (by kernel_rfl) (by kernel_rfl) (by kernel_rfl) (by kernel_rfl) (by kernel_rfl) (by kernel_rfl) (by rfl) (by rfl) (by kernel_rfl) (by kernel_rfl) (by kernel_rfl) (fun _ _ _ x y => x.trans y) Ext.refl (fun _ _ x => x) (Ext.refl _).drew (fun _ _ x _ => x) trivial ?_
  repeat (first | (refine wpY_move0 rfl rfl (by first | exact runs0 | exact runs1 rfl) Ext.refl rfl rfl rfl ?_; apply Exists.intro; refine ⟨?_, ?_⟩; · (go_simp; rfl)) | (refine wpY_move rfl rfl (by first | exact runs0 | exact runs1 rfl) Ext.refl rfl rfl rfl (fun _ _ _ h _ => h) ?_) | (refine wpY_val rfl rfl (by first | exact runs0 | exact runs1 rfl) Ext.refl rfl ?_; apply Exists.intro; refine ⟨?_, ?_⟩; · (intro a w' hR; intro h1; (first | (have e1 : _ = _ := h1) | skip); intro h2; (first | (have e2 : _ = _ := h2) | skip); go_simp; rfl)) | (refine wpY_val rfl rfl (by first | exact runs0 | exact runs1 rfl) Ext.refl rfl ?_; apply Exists.intro; refine ⟨?_, ?_⟩; · (intro a w' hR; intro h1; (first | (have e1 : _ = _ := h1) | skip); go_simp; rfl)) | (refine wpY_val rfl rfl (by first | exact runs0 | exact runs1 rfl) Ext.refl rfl ?_; apply Exists.intro; refine ⟨?_, ?_⟩; · (intro a w' hR; go_simp; rfl)) | (refine wpY_val rfl rfl (by first | exact runs0 | exact runs1 rfl) Ext.refl rfl ?_; apply Exists.intro; refine ⟨?_, ?_⟩; · (intro a w' hR; intro h1; (first | (have e1 : _ = _ := h1) | skip); intro h2; (first | (have e2 : _ = _ := h2) | skip); intro h3; (first | (have e3 : _ = _ := h3) | skip); go_simp; rfl)) | (refine wpY_skip rfl rfl (by first | exact .inl rfl | exact .inr rfl) ?_))
  refine wpY_val rfl rfl (by first | exact runs0 | exact runs1 rfl) Ext.refl rfl ?_; apply Exists.intro; refine ⟨?_, ?_⟩
  · intro a w' hR h1
    have e1 : _ = _ := h1
    have hl0 := hR.cell c0
    have hl1 := hR.cell c1
    go_simp
    rfl
  refine wpY_call (fun v w2 => OB 5 w.heap.size w2 v ml) rfl rfl (by first | exact runs0 | exact runs1 rfl) rfl (by first | exact mono_eq | exact (fun _ _ _ h k => Rd.ext h k) | exact (fun _ _ _ h k => RB.ext h k) | exact (fun _ _ _ h k => OB.ext h k) | exact (fun _ _ _ h k => RB.extS h k) | exact (fun _ _ _ h k => Rd.ext h (GrownW.ext k)) | exact (fun _ _ _ h k => RP.ext h k) | exact (fun _ _ _ h k => OP.ext h k) | exact (fun _ _ _ h k => Rd.extV h k) | exact (fun _ _ _ h k => RB.extV h k) | exact (fun _ _ _ h k => E0.ext h k) | exact (fun _ _ _ h k => O0.ext h k) | exact (fun _ _ _ h k => RE.ext h k) | exact (fun _ _ _ h k => RE.extD h k) | exact (fun _ _ _ h _ => h) | exact (fun _ _ _ ⟨n, h1, h2⟩ k => ⟨n, h1, k.st _ _ h2⟩)) ?_ ?_
  · intro a w' hR h1 K hK
    have e1 : _ = _ := h1
    go_simp
    refine (HM.out w').mono ?_
    rintro e w2 ⟨v, rfl, ho, he⟩
    exact hK _ _ he (ho.low (Nat.le_trans HSZ.out hR.size))
  repeat (first | (refine wpY_move0 rfl rfl (by first | exact runs0 | exact runs1 rfl) Ext.refl rfl rfl rfl ?_; apply Exists.intro; refine ⟨?_, ?_⟩; · (go_simp; rfl)) | (refine wpY_move rfl rfl (by first | exact runs0 | exact runs1 rfl) Ext.refl rfl rfl rfl (fun _ _ _ h _ => h) ?_) | (refine wpY_val rfl rfl (by first | exact runs0 | exact runs1 rfl) Ext.refl rfl ?_; apply Exists.intro; refine ⟨?_, ?_⟩; · (intro a w' hR; intro h1; (first | (have e1 : _ = _ := h1) | skip); intro h2; (first | (have e2 : _ = _ := h2) | skip); go_simp; rfl)) | (refine wpY_val rfl rfl (by first | exact runs0 | exact runs1 rfl) Ext.refl rfl ?_; apply Exists.intro; refine ⟨?_, ?_⟩; · (intro a w' hR; intro h1; (first | (have e1 : _ = _ := h1) | skip); go_simp; rfl)) | (refine wpY_val rfl rfl (by first | exact runs0 | exact runs1 rfl) Ext.refl rfl ?_; apply Exists.intro; refine ⟨?_, ?_⟩; · (intro a w' hR; go_simp; rfl)) | (refine wpY_val rfl rfl (by first | exact runs0 | exact runs1 rfl) Ext.refl rfl ?_; apply Exists.intro; refine ⟨?_, ?_⟩; · (intro a w' hR; intro h1; (first | (have e1 : _ = _ := h1) | skip); intro h2; (first | (have e2 : _ = _ := h2) | skip); intro h3; (first | (have e3 : _ = _ := h3) | skip); go_simp; rfl)) | (refine wpY_skip rfl rfl (by first | exact .inl rfl | exact .inr rfl) ?_))
  refine wpY_val rfl rfl (by first | exact runs0 | exact runs1 rfl) Ext.refl rfl ?_; apply Exists.intro; refine ⟨?_, ?_⟩
  · intro a w' hR h1
    have e1 : _ = _ := h1
    have hl0 := hR.cell c2
    have hl1 := hR.cell c3
    go_simp
    rfl
  refine wpY_call (fun v w2 => OB 5 w.heap.size w2 v rl) rfl rfl (by first | exact runs0 | exact runs1 rfl) rfl (by first | exact mono_eq | exact (fun _ _ _ h k => Rd.ext h k) | exact (fun _ _ _ h k => RB.ext h k) | exact (fun _ _ _ h k => OB.ext h k) | exact (fun _ _ _ h k => RB.extS h k) | exact (fun _ _ _ h k => Rd.ext h (GrownW.ext k)) | exact (fun _ _ _ h k => RP.ext h k) | exact (fun _ _ _ h k => OP.ext h k) | exact (fun _ _ _ h k => Rd.extV h k) | exact (fun _ _ _ h k => RB.extV h k) | exact (fun _ _ _ h k => E0.ext h k) | exact (fun _ _ _ h k => O0.ext h k) | exact (fun _ _ _ h k => RE.ext h k) | exact (fun _ _ _ h k => RE.extD h k) | exact (fun _ _ _ h _ => h) | exact (fun _ _ _ ⟨n, h1, h2⟩ k => ⟨n, h1, k.st _ _ h2⟩)) ?_ ?_
  · intro a w' hR h1 K hK
    have e1 : _ = _ := h1
    go_simp
    refine (HR.out w').mono ?_
    rintro e w2 ⟨v, rfl, ho, he⟩
    exact hK _ _ he (ho.low (Nat.le_trans HSZ.out hR.size))
  refine wpY_done ?_
  intro w4 hx hS
  iterate 2 (rintro _ rfl)
  rintro v5 h5
  iterate 2 (rintro _ rfl)
  rintro v8 h8
  dsimp only [FinV]
  go_simp
  clear hS
  obtain ⟨A5, c5, rfl⟩ := OB.form h5
  obtain ⟨A8, c8, rfl⟩ := OB.form h8
  have HX := Lib.hid (HX.out.trans hx)
  have H5 := Lib.hid (show OB 5 w.heap.size w4 (.slice A5 ml.length c5) ml from h5)
  have H8 := Lib.hid (show OB 5 w.heap.size w4 (.slice A8 rl.length c8) rl from h8)
  clear h5 h8 hx
  simp only [thenTail, List.drop_succ_cons, List.drop_zero]
  go_wp2_with (refine wpList_appBB rfl elemB w _ (.tmp 5) (.tmp 8) rfl _ ml rfl H5.out HX.out _ rl rfl H8.out.rb (by have := HFL.out; omega) ?_; intro v9 w9 ho9 he9 hg9; have HO9 := Lib.hid ho9; have HE9 := Lib.hid he9; clear ho9 he9 hg9)
  go_ret
  rw [← HF.out]
  exact ⟨_, rfl, HO9.out, HE9.out⟩

/-- how many bytes an entry has -/
def sizeE (x : Ent.E) : Nat := if Ent.okE x = 0 then (Ent.entL x).length else 0
set_option maxRecDepth 100000 in
set_option maxHeartbeats 1000000 in
theorem sizeE_any (x : Ent.E) (w : World) : Calls Try.prog 19 #[entV x] w fun e w' => e = .returned (.int .i64 (sizeE x : Int)) ∧ Ext w w' := by
  have HC := Lib.hid (fun w => checkE_any x w)
  have HP := Lib.hid (fun w h => putE_any x w h)
  have HS := Lib.hid (show sizeE x = if Ent.okE x = 0 then (Ent.entL x).length else 0 from rfl)
  generalize sizeE x = sz at *
  generalize Ent.entL x = xl at *
  generalize Ent.okE x = oe at *
  obtain ⟨⟨x1, x2⟩, x3, x4⟩ := x
  have HB := Lib.hid (Bx4.new w 28 x1 x2 x3 x4)
  have HX := Lib.hid ((Ext.refl w).alloc (.cells #[.int .i64 x1, .int .i64 x2, .int .i64 x3, .int .i64 x4] 28))
  obtain ⟨c0, c1, c2, c3⟩ := HB.out
  by_cases h : oe = 0
  · subst h
    rw [if_pos rfl] at HS
    have HP2 := Lib.hid (fun w => HP.out w rfl)
    clear HP
    go_enter Try.func19, Try.ntmps19
    go_wp2_with fail
    refine (HC.out _).mono ?_
    rintro e w1 ⟨rfl, he1⟩
    have c0 := he1.cell c0
    have c1 := he1.cell c1
    have c2 := he1.cell c2
    have c3 := he1.cell c3
    go_wp2_with fail
    refine (HP2.out _).mono ?_
    rintro e w2 ⟨v2, rfl, ho2, he2⟩
    obtain ⟨A2, n2, rfl⟩ := ho2.form
    go_wp2
    go_ret
    rw [HS.out]
    exact ⟨rfl, (HX.out.trans he1).trans he2⟩
  · have hn : (oe != 0) = true := by simpa using h
    rw [if_neg h] at HS
    clear h HP
    go_enter Try.func19, Try.ntmps19
    go_wp2_with fail
    refine (HC.out _).mono ?_
    rintro e w1 ⟨rfl, he1⟩
    go_wp2
    go_ret
    rw [HS.out]
    exact ⟨rfl, HX.out.trans he1⟩
end Go.Proofs.Ytacpomonidmjaaa
