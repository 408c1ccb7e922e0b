/-
  The walks of moment.Put.
-/
import Derived.Test.YtacpomonidmjaaaMom
import Derived.Test.YtacpomonidmjaaaNumPut
import Derived.Test.YtacpomonidmjaaaSlcCat
namespace Go.Proofs.Ytacpomonidmjaaa.Mo
open Go.RowKit Go.Ox
attribute [local irreducible] OB RB

set_option maxRecDepth 100000 in
set_option maxHeartbeats 1000000 in
theorem mput_bad (m : Mom.M) (w : World) (hm : Mom.ok m = false) : Calls Try.prog 64 #[mV m] w fun e w' => e = .returned (.tuple #[.slice none 0 0, .int .i64 40]) ∧ Ext w w' := by
  have HC := Lib.hid (fun w => check_any m w)
  rw [hm, if_neg (by simp)] at HC
  obtain ⟨x, y⟩ := m
  clear hm
  go_enter Try.func64, Try.ntmps64
  go_wp2_with fail
  refine (HC.out _).mono ?_
  rintro e w1 ⟨rfl, he1⟩
  go_wp2_with fail
  go_ret2
  exact ⟨rfl, ((Ext.refl _).alloc _).trans he1⟩

set_option maxRecDepth 100000 in
set_option maxHeartbeats 1000000 in
theorem mput_any (x y : Nat) (w : World) (hx : x < 65536) (hy : y < 65536) : Calls Try.prog 64 #[mV ((x : Int), (y : Int))] w fun e w' =>
    ∃ v, e = .returned (.tuple #[v, .int .i64 0]) ∧ OB 5 w.heap.size w' v (Num.put x ++ Num.put y) ∧ Ext w w' := by
  have HC := Lib.hid (fun w => check_any ((x : Int), (y : Int)) w)
  have hm : Mom.ok ((x : Int), (y : Int)) = true := by unfold Mom.ok; simp; omega
  rw [hm, if_pos rfl] at HC
  have B0 := Blk.new w 24 #[.int .i64 (x : Int), .int .i64 (y : Int)]
  have c0 : (w.alloc (.cells #[.int .i64 (x : Int), .int .i64 (y : Int)] 24)).cell? ⟨w.heap.size, 0, none⟩ = some (.int .i64 (x : Int)) := B0.cell 0
  have c1 : (w.alloc (.cells #[.int .i64 (x : Int), .int .i64 (y : Int)] 24)).cell? ⟨w.heap.size, 1, none⟩ = some (.int .i64 (y : Int)) := B0.cell 1
  have HB0 := Lib.hid B0
  clear B0 hm
  have hf : ((([Num.put x, Num.put y] : List (List UInt8)).flatten).length : Nat) ≤ 1099511627776 := by
    have h1 := Num.put_le x
    have h2 := Num.put_le y
    have h3 := (Num.width_le 8 x (by omega)).2 (by omega)
    have h4 := (Num.width_le 8 y (by omega)).2 (by omega)
    simp only [List.flatten_cons, List.flatten_nil, List.append_nil, List.length_append]; omega
  have HF := Lib.hid hf
  clear hf
  go_enter Try.func64, Try.ntmps64
  go_wp2_with fail
  refine (HC.out _).mono ?_
  rintro e w1 ⟨rfl, he1⟩
  have d0 := (HB0.out.ext he1).cell 0
  have d1 := (HB0.out.ext he1).cell 1
  have HB1 := Lib.hid (HB0.out.ext he1)
  have HX1 := Lib.hid (((Ext.refl w).alloc (.cells #[.int .i64 (x : Int), .int .i64 (y : Int)] 24)).trans he1)
  clear he1 c0 c1
  have d0 : w1.cell? ⟨w.heap.size, 0, none⟩ = some (.int .i64 (x : Int)) := d0
  go_wp2_with fail
  refine (put_any x _ (by omega)).mono ?_
  rintro e w2 ⟨v2, rfl, ho2, he2⟩
  have d1 : w2.cell? ⟨w.heap.size, 1, none⟩ = some (.int .i64 (y : Int)) := (HB1.out.ext he2).cell 1
  have HO2 := Lib.hid ho2
  have HX2 := Lib.hid he2
  obtain ⟨A2, k2, rfl⟩ := ho2.form
  clear ho2 he2 d0
  go_wp2_with fail
  refine (put_any y _ (by omega)).mono ?_
  rintro e w3 ⟨v3, rfl, ho3, he3⟩
  have HO3 := Lib.hid ho3
  have HX3 := Lib.hid he3
  obtain ⟨A3, k3, rfl⟩ := ho3.form
  clear ho3 he3 d1
  go_wp2_with fail
  refine (concat_any _ [Num.put x, Num.put y] _ (RBs.lit2 _ (HO2.out.ext HX3.out).rb HO3.out.rb) HF.out).mono ?_
  rintro e w4 ⟨v4, rfl, ho4, he4⟩
  obtain ⟨A4, k4, rfl⟩ := ho4.form
  go_wp2_with fail
  go_ret2
  have hx : Ext w w3 := (HX1.out.trans HX2.out).trans HX3.out
  refine ⟨_, rfl, ?_, (hx.alloc _).trans he4⟩
  have h9 := ho4.low ((hx.alloc _).size)
  rw [show [Num.put x, Num.put y].flatten = Num.put x ++ Num.put y by simp] at h9
  simpa using h9
end Go.Proofs.Ytacpomonidmjaaa.Mo
