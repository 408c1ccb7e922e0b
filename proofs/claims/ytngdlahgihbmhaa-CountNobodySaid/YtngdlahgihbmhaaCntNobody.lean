/-
  The statements of layer 21: CountNobody.
-/
import Derived.Test.YtngdlahgihbmhaaCntLives
namespace Go.Proofs.Ytngdlahgihbmhaa
open Go.RowKit Go.Ox Go.Shelf
set_option linter.unusedVariables false
set_option linter.unusedSimpArgs false
attribute [local irreducible] OP RP

set_option maxRecDepth 100000 in
set_option maxHeartbeats 4000000 in
theorem nobody_any (x : Cnt.S) (w : World) : Calls Try.prog 5 #[sV x] w fun e w' => e = .returned (.bool true) ∧ Ext w w' := by
  obtain ⟨⟨⟨x1, x2⟩, x3, x4⟩, x5⟩ := x
  have HX0 := Lib.hid ((Ext.refl w).alloc (.cells #[.int .i64 x1, .int .i64 x2, .int .i64 x3, .int .i64 x4, .int .i64 x5] 34))
  have HB0 := Lib.hid (Blk.new w 34 #[.int .i64 x1, .int .i64 x2, .int .i64 x3, .int .i64 x4, .int .i64 x5])
  dsimp only [sV]
  go_enter Try.func5, Try.ntmps5
  go_wp2_with fail
  refine (lives_any _).mono ?_
  rintro e w1 ⟨rfl, he⟩
  have HX1 := Lib.hid (HX0.out.trans he)
  have HB1 := Lib.hid (HB0.out.ext he)
  clear he HX0 HB0
  have c0 : w1.cell? ⟨w.heap.size, 0, none⟩ = some (.int .i64 x1) := HB1.out.cell 0
  have c1 : w1.cell? ⟨w.heap.size, 1, none⟩ = some (.int .i64 x2) := HB1.out.cell 1
  have c2 : w1.cell? ⟨w.heap.size, 2, none⟩ = some (.int .i64 x3) := HB1.out.cell 2
  have c3 : w1.cell? ⟨w.heap.size, 3, none⟩ = some (.int .i64 x4) := HB1.out.cell 3
  have c4 : w1.cell? ⟨w.heap.size, 4, none⟩ = some (.int .i64 x5) := HB1.out.cell 4
  go_wp2_with fail
  refine (add_nil _ ((x1, x2), x3, x4) x5).mono ?_
  rintro e w2 ⟨rfl, he⟩
  have HX2 := Lib.hid (HX1.out.trans he)
  have HB2 := Lib.hid (HB1.out.ext he)
  clear he HX1 HB1
  have c0 : w2.cell? ⟨w.heap.size, 0, none⟩ = some (.int .i64 x1) := HB2.out.cell 0
  have c1 : w2.cell? ⟨w.heap.size, 1, none⟩ = some (.int .i64 x2) := HB2.out.cell 1
  have c2 : w2.cell? ⟨w.heap.size, 2, none⟩ = some (.int .i64 x3) := HB2.out.cell 2
  have c3 : w2.cell? ⟨w.heap.size, 3, none⟩ = some (.int .i64 x4) := HB2.out.cell 3
  have c4 : w2.cell? ⟨w.heap.size, 4, none⟩ = some (.int .i64 x5) := HB2.out.cell 4
  go_wp2_with fail
  refine (of_nil _ ((x1, x2), x3, x4)).mono ?_
  rintro e w3 ⟨rfl, he⟩
  have HX3 := Lib.hid (HX2.out.trans he)
  have HB3 := Lib.hid (HB2.out.ext he)
  clear he HX2 HB2
  have c0 : w3.cell? ⟨w.heap.size, 0, none⟩ = some (.int .i64 x1) := HB3.out.cell 0
  have c1 : w3.cell? ⟨w.heap.size, 1, none⟩ = some (.int .i64 x2) := HB3.out.cell 1
  have c2 : w3.cell? ⟨w.heap.size, 2, none⟩ = some (.int .i64 x3) := HB3.out.cell 2
  have c3 : w3.cell? ⟨w.heap.size, 3, none⟩ = some (.int .i64 x4) := HB3.out.cell 3
  have c4 : w3.cell? ⟨w.heap.size, 4, none⟩ = some (.int .i64 x5) := HB3.out.cell 4
  go_wp2_with fail
  refine (moments_nil _ (x1, x2)).mono ?_
  rintro e w4 ⟨rfl, he⟩
  have HX4 := Lib.hid (HX3.out.trans he)
  have HB4 := Lib.hid (HB3.out.ext he)
  clear he HX3 HB3
  have c0 : w4.cell? ⟨w.heap.size, 0, none⟩ = some (.int .i64 x1) := HB4.out.cell 0
  have c1 : w4.cell? ⟨w.heap.size, 1, none⟩ = some (.int .i64 x2) := HB4.out.cell 1
  have c2 : w4.cell? ⟨w.heap.size, 2, none⟩ = some (.int .i64 x3) := HB4.out.cell 2
  have c3 : w4.cell? ⟨w.heap.size, 3, none⟩ = some (.int .i64 x4) := HB4.out.cell 3
  have c4 : w4.cell? ⟨w.heap.size, 4, none⟩ = some (.int .i64 x5) := HB4.out.cell 4
  go_wp2_with fail
  refine (stamps_nil _).mono ?_
  rintro e w5 ⟨rfl, rfl⟩
  have HX5 := Lib.hid HX4.out
  have HB5 := Lib.hid HB4.out
  go_wp2_with fail
  refine (total_nil _).mono ?_
  rintro e w6 ⟨rfl, rfl⟩
  have HX6 := Lib.hid HX5.out
  have HB6 := Lib.hid HB5.out
  go_wp2_with fail
  refine (clone_nil _).mono ?_
  rintro e w7 ⟨g1, b1, rfl, _, _, _, he⟩
  have HX7 := Lib.hid (HX6.out.trans he)
  have HB7 := Lib.hid (HB6.out.ext he)
  clear he HX6 HB6
  have c0 : w7.cell? ⟨w.heap.size, 0, none⟩ = some (.int .i64 x1) := HB7.out.cell 0
  have c1 : w7.cell? ⟨w.heap.size, 1, none⟩ = some (.int .i64 x2) := HB7.out.cell 1
  have c2 : w7.cell? ⟨w.heap.size, 2, none⟩ = some (.int .i64 x3) := HB7.out.cell 2
  have c3 : w7.cell? ⟨w.heap.size, 3, none⟩ = some (.int .i64 x4) := HB7.out.cell 3
  have c4 : w7.cell? ⟨w.heap.size, 4, none⟩ = some (.int .i64 x5) := HB7.out.cell 4
  go_wp2_with fail
  refine (clone_nil _).mono ?_
  rintro e w8 ⟨g2, b2, rfl, _, _, hc, he⟩
  have HX8 := Lib.hid (HX7.out.trans he)
  have HB8 := Lib.hid (HB7.out.ext he)
  have HC := Lib.hid hc
  clear hc
  clear he HX7 HB7
  have c0 : w8.cell? ⟨w.heap.size, 0, none⟩ = some (.int .i64 x1) := HB8.out.cell 0
  have c1 : w8.cell? ⟨w.heap.size, 1, none⟩ = some (.int .i64 x2) := HB8.out.cell 1
  have c2 : w8.cell? ⟨w.heap.size, 2, none⟩ = some (.int .i64 x3) := HB8.out.cell 2
  have c3 : w8.cell? ⟨w.heap.size, 3, none⟩ = some (.int .i64 x4) := HB8.out.cell 3
  have c4 : w8.cell? ⟨w.heap.size, 4, none⟩ = some (.int .i64 x5) := HB8.out.cell 4
  go_wp2_with fail
  refine (total_any _ g2 b2 [] HC.out (by decide)).mono ?_
  rintro e w9 ⟨rfl, he⟩
  have HX9 := Lib.hid (HX8.out.trans he)
  have HB9 := Lib.hid (HB8.out.ext he)
  clear he HX8 HB8
  have c0 : w9.cell? ⟨w.heap.size, 0, none⟩ = some (.int .i64 x1) := HB9.out.cell 0
  have c1 : w9.cell? ⟨w.heap.size, 1, none⟩ = some (.int .i64 x2) := HB9.out.cell 1
  have c2 : w9.cell? ⟨w.heap.size, 2, none⟩ = some (.int .i64 x3) := HB9.out.cell 2
  have c3 : w9.cell? ⟨w.heap.size, 3, none⟩ = some (.int .i64 x4) := HB9.out.cell 3
  have c4 : w9.cell? ⟨w.heap.size, 4, none⟩ = some (.int .i64 x5) := HB9.out.cell 4
  go_wp2
  go_ret
  exact ⟨rfl, HX9.out⟩
theorem countNobody_law (w : World) (v : Value) (x : Cnt.S) (h : v = sV x) : Calls Try.prog 5 #[v] w fun e w' => e = .returned (.bool true) ∧ Ext w w' := by
  subst h
  exact nobody_any x w
end Go.Proofs.Ytngdlahgihbmhaa
