/-
  The walks of rec.Put.
  The walk of oxbowref04.Put.
-/
import Derived.Test.YtacpomonidmjaaaRec
import Derived.Test.YtacpomonidmjaaaNumPut
import Derived.Test.YtacpomonidmjaaaSlcCat
import Derived.Test.YtacpomonidmjaaaRecRef
import Derived.Test.YtacpomonidmjaaaCopy
import Derived.Test.YtacpomonidmjaaaEff
namespace Go.Proofs.Ytacpomonidmjaaa
open Go.RowKit Go.Ox
attribute [local irreducible] OB RB

set_option maxRecDepth 100000 in
set_option maxHeartbeats 1000000 in
theorem mput_bad (m : Rec.R) (w : World) (hm : Rec.ok m = false) : Calls Try.prog 65 #[mV m] w fun e w' => e = .returned (.tuple #[.slice none 0 0, .int .i64 30]) ∧ Ext w w' := by
  have HC := Lib.hid (fun w => check_any m w)
  rw [hm, if_neg (by simp)] at HC
  obtain ⟨x, y⟩ := m
  clear hm
  go_enter Try.func65, Try.ntmps65
  go_wp2_with fail
  refine (HC.out _).mono ?_
  rintro e w1 ⟨rfl, he1⟩
  go_wp2_with fail
  go_ret2
  exact ⟨rfl, ((Ext.refl _).alloc _).trans he1⟩

set_option maxRecDepth 100000 in
set_option maxHeartbeats 1000000 in
theorem mput_any (x y : Nat) (w : World) (hx : x < 1048576) (hy : y < 1048576) : Calls Try.prog 65 #[mV ((x : Int), (y : Int))] w fun e w' =>
    ∃ v, e = .returned (.tuple #[v, .int .i64 0]) ∧ OB 5 w.heap.size w' v (Num.put x ++ Num.put y) ∧ Ext w w' := by
  have HC := Lib.hid (fun w => check_any ((x : Int), (y : Int)) w)
  have hm : Rec.ok ((x : Int), (y : Int)) = true := by unfold Rec.ok; simp; omega
  rw [hm, if_pos rfl] at HC
  have B0 := Blk.new w 26 #[.int .i64 (x : Int), .int .i64 (y : Int)]
  have c0 : (w.alloc (.cells #[.int .i64 (x : Int), .int .i64 (y : Int)] 26)).cell? ⟨w.heap.size, 0, none⟩ = some (.int .i64 (x : Int)) := B0.cell 0
  have c1 : (w.alloc (.cells #[.int .i64 (x : Int), .int .i64 (y : Int)] 26)).cell? ⟨w.heap.size, 1, none⟩ = some (.int .i64 (y : Int)) := B0.cell 1
  have HB0 := Lib.hid B0
  clear B0 hm
  have hf : ((([Num.put x, Num.put y] : List (List UInt8)).flatten).length : Nat) ≤ 1099511627776 := by
    have h1 := Num.put_le x
    have h2 := Num.put_le y
    have h3 := (Num.width_le 8 x (by omega)).2 (by omega)
    have h4 := (Num.width_le 8 y (by omega)).2 (by omega)
    simp only [List.flatten_cons, List.flatten_nil, List.append_nil, List.length_append]; omega
  have HF := Lib.hid hf
  clear hf
  go_enter Try.func65, Try.ntmps65
  go_wp2_with fail
  refine (HC.out _).mono ?_
  rintro e w1 ⟨rfl, he1⟩
  have d0 := (HB0.out.ext he1).cell 0
  have d1 := (HB0.out.ext he1).cell 1
  have HB1 := Lib.hid (HB0.out.ext he1)
  have HX1 := Lib.hid (((Ext.refl w).alloc (.cells #[.int .i64 (x : Int), .int .i64 (y : Int)] 26)).trans he1)
  clear he1 c0 c1
  have d0 : w1.cell? ⟨w.heap.size, 0, none⟩ = some (.int .i64 (x : Int)) := d0
  go_wp2_with fail
  refine (put_any x _ (by omega)).mono ?_
  rintro e w2 ⟨v2, rfl, ho2, he2⟩
  have d1 : w2.cell? ⟨w.heap.size, 1, none⟩ = some (.int .i64 (y : Int)) := (HB1.out.ext he2).cell 1
  have HO2 := Lib.hid ho2
  have HX2 := Lib.hid he2
  obtain ⟨A2, k2, rfl⟩ := ho2.form
  clear ho2 he2 d0
  go_wp2_with fail
  refine (put_any y _ (by omega)).mono ?_
  rintro e w3 ⟨v3, rfl, ho3, he3⟩
  have HO3 := Lib.hid ho3
  have HX3 := Lib.hid he3
  obtain ⟨A3, k3, rfl⟩ := ho3.form
  clear ho3 he3 d1
  go_wp2_with fail
  refine (concat_any _ [Num.put x, Num.put y] _ (RBs.lit2 _ (HO2.out.ext HX3.out).rb HO3.out.rb) HF.out).mono ?_
  rintro e w4 ⟨v4, rfl, ho4, he4⟩
  obtain ⟨A4, k4, rfl⟩ := ho4.form
  go_wp2_with fail
  go_ret2
  have hx : Ext w w3 := (HX1.out.trans HX2.out).trans HX3.out
  refine ⟨_, rfl, ?_, (hx.alloc _).trans he4⟩
  have h9 := ho4.low ((hx.alloc _).size)
  rw [show [Num.put x, Num.put y].flatten = Num.put x ++ Num.put y by simp] at h9
  simpa using h9
end Go.Proofs.Ytacpomonidmjaaa
namespace Go.Proofs.Ytacpomonidmjaaa
open Go.RowKit Go.Ox
attribute [local irreducible] OB RB

set_option maxRecDepth 100000 in
set_option maxHeartbeats 1000000 in
theorem rmput_any (x y : Nat) (w : World) (hx : x < 1048576) (hy : y < 1048576) : Calls Try.prog 46 #[mV ((x : Int), (y : Int))] w fun e w' =>
    ∃ v, e = .returned v ∧ OB 5 w.heap.size w' v (Num.put x ++ Num.put y) ∧ Ext w w' := by
  have hx9 : x < 9223372036854775808 := by omega
  have hy9 : y < 9223372036854775808 := by omega
  have HPX := Lib.hid (fun w => rput_any x w hx9)
  have HPY := Lib.hid (fun w => rput_any y w hy9)
  have B0 := Blk.new w 26 #[.int .i64 (x : Int), .int .i64 (y : Int)]
  have c0 : (w.alloc (.cells #[.int .i64 (x : Int), .int .i64 (y : Int)] 26)).cell? ⟨w.heap.size, 0, none⟩ = some (.int .i64 (x : Int)) := B0.cell 0
  have c1 : (w.alloc (.cells #[.int .i64 (x : Int), .int .i64 (y : Int)] 26)).cell? ⟨w.heap.size, 1, none⟩ = some (.int .i64 (y : Int)) := B0.cell 1
  have hlx : Hid ((Num.put x).length ≤ 100) := Lib.hid (by have h1 := Num.put_le x; have h3 := (Num.width_le 8 x (by omega)).2 (by omega); omega)
  have hly : Hid ((Num.put y).length ≤ 100) := Lib.hid (by have h1 := Num.put_le y; have h3 := (Num.width_le 8 y (by omega)).2 (by omega); omega)
  have HSZ : Hid (w.heap.size ≤ (w.alloc (.cells #[.int .i64 (x : Int), .int .i64 (y : Int)] 26)).heap.size) := Lib.hid (by simp)
  have HEX := Lib.hid ((Ext.refl w).alloc (.cells #[.int .i64 (x : Int), .int .i64 (y : Int)] 26))
  clear B0 hx9 hy9 hx hy
  generalize Num.put x = p at *
  generalize Num.put y = q at *
  go_enter Try.func46, Try.ntmps46
  go_wp2
  refine wp_region_tailY 6 [] [] Ext Ext (fun _ => True) (by kernel_rfl) (by kernel_rfl) (by kernel_rfl) (by kernel_rfl) (by kernel_rfl) (by kernel_rfl) (by kernel_rfl) (by rfl) (by rfl) (by kernel_rfl) (by kernel_rfl) (by kernel_rfl) (fun _ _ _ x y => x.trans y) Ext.refl (fun _ _ x => x) (Ext.refl _).drew (fun _ _ x _ => x) trivial ?_
  repeat (first | (refine wpY_move0 rfl rfl (by first | exact runs0 | exact runs1 rfl) Ext.refl rfl rfl rfl ?_; apply Exists.intro; refine ⟨?_, ?_⟩; · (go_simp; rfl)) | (refine wpY_move rfl rfl (by first | exact runs0 | exact runs1 rfl) Ext.refl rfl rfl rfl (fun _ _ _ h _ => h) ?_) | (refine wpY_val rfl rfl (by first | exact runs0 | exact runs1 rfl) Ext.refl rfl ?_; apply Exists.intro; refine ⟨?_, ?_⟩; · (intro a w' hR; intro h1; (first | (have e1 : _ = _ := h1) | skip); intro h2; (first | (have e2 : _ = _ := h2) | skip); go_simp; rfl)) | (refine wpY_val rfl rfl (by first | exact runs0 | exact runs1 rfl) Ext.refl rfl ?_; apply Exists.intro; refine ⟨?_, ?_⟩; · (intro a w' hR; intro h1; (first | (have e1 : _ = _ := h1) | skip); go_simp; rfl)) | (refine wpY_val rfl rfl (by first | exact runs0 | exact runs1 rfl) Ext.refl rfl ?_; apply Exists.intro; refine ⟨?_, ?_⟩; · (intro a w' hR; go_simp; rfl)) | (refine wpY_val rfl rfl (by first | exact runs0 | exact runs1 rfl) Ext.refl rfl ?_; apply Exists.intro; refine ⟨?_, ?_⟩; · (intro a w' hR; intro h1; (first | (have e1 : _ = _ := h1) | skip); intro h2; (first | (have e2 : _ = _ := h2) | skip); intro h3; (first | (have e3 : _ = _ := h3) | skip); go_simp; rfl)) | (refine wpY_skip rfl rfl (by first | exact .inl rfl | exact .inr rfl) ?_))
  refine wpY_val rfl rfl (by first | exact runs0 | exact runs1 rfl) Ext.refl rfl ?_; apply Exists.intro; refine ⟨?_, ?_⟩
  · intro a w' hR h1
    have e1 : _ = _ := h1
    have hl0 := hR.cell c0
    have hl1 := hR.cell c1
    go_simp
    rfl
  refine wpY_call (fun v w2 => OB 5 w.heap.size w2 v p) rfl rfl (by first | exact runs0 | exact runs1 rfl) rfl (by first | exact mono_eq | exact (fun _ _ _ h k => Rd.ext h k) | exact (fun _ _ _ h k => RB.ext h k) | exact (fun _ _ _ h k => OB.ext h k) | exact (fun _ _ _ h k => RB.extS h k) | exact (fun _ _ _ h k => Rd.ext h (GrownW.ext k)) | exact (fun _ _ _ h k => RP.ext h k) | exact (fun _ _ _ h k => OP.ext h k) | exact (fun _ _ _ h k => Rd.extV h k) | exact (fun _ _ _ h k => RB.extV h k) | exact (fun _ _ _ h k => E0.ext h k) | exact (fun _ _ _ h k => O0.ext h k) | exact (fun _ _ _ h k => RE.ext h k) | exact (fun _ _ _ h k => RE.extD h k) | exact (fun _ _ _ h _ => h) | exact (fun _ _ _ ⟨n, h1, h2⟩ k => ⟨n, h1, k.st _ _ h2⟩)) ?_ ?_
  · intro a w' hR h1 K hK
    have e1 : _ = _ := h1
    go_simp
    refine (HPX.out w').mono ?_
    rintro e w2 ⟨v, rfl, ho, he⟩
    exact hK _ _ he (ho.low (Nat.le_trans HSZ.out hR.size))
  repeat (first | (refine wpY_move0 rfl rfl (by first | exact runs0 | exact runs1 rfl) Ext.refl rfl rfl rfl ?_; apply Exists.intro; refine ⟨?_, ?_⟩; · (go_simp; rfl)) | (refine wpY_move rfl rfl (by first | exact runs0 | exact runs1 rfl) Ext.refl rfl rfl rfl (fun _ _ _ h _ => h) ?_) | (refine wpY_val rfl rfl (by first | exact runs0 | exact runs1 rfl) Ext.refl rfl ?_; apply Exists.intro; refine ⟨?_, ?_⟩; · (intro a w' hR; intro h1; (first | (have e1 : _ = _ := h1) | skip); intro h2; (first | (have e2 : _ = _ := h2) | skip); go_simp; rfl)) | (refine wpY_val rfl rfl (by first | exact runs0 | exact runs1 rfl) Ext.refl rfl ?_; apply Exists.intro; refine ⟨?_, ?_⟩; · (intro a w' hR; intro h1; (first | (have e1 : _ = _ := h1) | skip); go_simp; rfl)) | (refine wpY_val rfl rfl (by first | exact runs0 | exact runs1 rfl) Ext.refl rfl ?_; apply Exists.intro; refine ⟨?_, ?_⟩; · (intro a w' hR; go_simp; rfl)) | (refine wpY_val rfl rfl (by first | exact runs0 | exact runs1 rfl) Ext.refl rfl ?_; apply Exists.intro; refine ⟨?_, ?_⟩; · (intro a w' hR; intro h1; (first | (have e1 : _ = _ := h1) | skip); intro h2; (first | (have e2 : _ = _ := h2) | skip); intro h3; (first | (have e3 : _ = _ := h3) | skip); go_simp; rfl)) | (refine wpY_skip rfl rfl (by first | exact .inl rfl | exact .inr rfl) ?_))
  refine wpY_val rfl rfl (by first | exact runs0 | exact runs1 rfl) Ext.refl rfl ?_; apply Exists.intro; refine ⟨?_, ?_⟩
  · intro a w' hR h1
    have e1 : _ = _ := h1
    have hl0 := hR.cell c0
    have hl1 := hR.cell c1
    go_simp
    rfl
  refine wpY_call (fun v w2 => OB 5 w.heap.size w2 v q) rfl rfl (by first | exact runs0 | exact runs1 rfl) rfl (by first | exact mono_eq | exact (fun _ _ _ h k => Rd.ext h k) | exact (fun _ _ _ h k => RB.ext h k) | exact (fun _ _ _ h k => OB.ext h k) | exact (fun _ _ _ h k => RB.extS h k) | exact (fun _ _ _ h k => Rd.ext h (GrownW.ext k)) | exact (fun _ _ _ h k => RP.ext h k) | exact (fun _ _ _ h k => OP.ext h k) | exact (fun _ _ _ h k => Rd.extV h k) | exact (fun _ _ _ h k => RB.extV h k) | exact (fun _ _ _ h k => E0.ext h k) | exact (fun _ _ _ h k => O0.ext h k) | exact (fun _ _ _ h k => RE.ext h k) | exact (fun _ _ _ h k => RE.extD h k) | exact (fun _ _ _ h _ => h) | exact (fun _ _ _ ⟨n, h1, h2⟩ k => ⟨n, h1, k.st _ _ h2⟩)) ?_ ?_
  · intro a w' hR h1 K hK
    have e1 : _ = _ := h1
    go_simp
    refine (HPY.out w').mono ?_
    rintro e w2 ⟨v, rfl, ho, he⟩
    exact hK _ _ he (ho.low (Nat.le_trans HSZ.out hR.size))
  refine wpY_done ?_
  intro w4 hx hS
  iterate 2 (rintro _ rfl)
  rintro v5 h5
  iterate 2 (rintro _ rfl)
  rintro v8 h8
  dsimp only [FinV]
  go_simp
  clear hS
  obtain ⟨A5, c5, rfl⟩ := OB.form h5
  obtain ⟨A8, c8, rfl⟩ := OB.form h8
  have HX := Lib.hid (HEX.out.trans hx)
  have H5 := Lib.hid (show OB 5 w.heap.size w4 (.slice A5 p.length c5) p from h5)
  have H8 := Lib.hid (show OB 5 w.heap.size w4 (.slice A8 q.length c8) q from h8)
  clear h5 h8 hx
  simp only [thenTail, List.drop_succ_cons, List.drop_zero]
  go_wp2_with (refine wpList_appBB rfl elemB w _ (.tmp 5) (.tmp 8) rfl _ p rfl H5.out HX.out _ q rfl H8.out.rb (by have := hlx.out; have := hly.out; omega) ?_; intro v9 w9 ho9 he9 hg9; have HO9 := Lib.hid ho9; have HE9 := Lib.hid he9; clear ho9 he9 hg9)
  go_ret
  exact ⟨_, rfl, HO9.out, HE9.out⟩
end Go.Proofs.Ytacpomonidmjaaa
