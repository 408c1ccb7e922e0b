/-
  MomWay, MomThen, packed: what the claim needs of them.
-/
import Derived.Test.YtcacicgkebcdkaaPe07
import Derived.Test.YtcacicgkebcdkaaPe05
import Derived.Test.YtcacicgkebcdkaaPe01
set_option linter.unusedSimpArgs false
set_option linter.unusedVariables false
set_option maxRecDepth 100000
namespace Go.Proofs.Ytcacicgkebcdkaa.Mo
open Go.RowKit Go.Ox Go.Shelf
abbrev W := Bool × Int
abbrev wV (x : W) : Value := .agg #[.bool x.1, .int .i64 x.2]
def okW (x : W) : Bool := decide (0 ≤ x.2) && decide (x.2 < 65536)
def stepM (x : W) (m : Mom.M) : Mom.M := (m.1, (if x.1 = true then 0 else m.2) + x.2)
def walkM (x : W) (m : Mom.M) : Mom.M × Int :=
  if okW x = false then ((0, 0), 1) else if Mom.ok m = false then ((0, 0), 40) else if Mom.ok (stepM x m) = false then ((0, 0), 40) else (stepM x m, 0)
def bothW (a b : W) : W := if b.1 = true then b else (a.1, a.2 + b.2)
def thenW (a b : W) : W × Int := if okW a = false ∨ okW b = false then ((false, 0), 1) else if okW (bothW a b) = false then ((false, 0), 1) else (bothW a b, 0)
set_option maxHeartbeats 400000 in
theorem may_any (x : W) (w : World) : Calls Try.prog 67 #[wV x] w fun e w' => e = .returned (.bool (okW x)) ∧ Ext w w' := by
  obtain ⟨s, a⟩ := x
  unfold okW
  dsimp only
  by_cases h1 : 0 ≤ a
  · have d1 : decide (0 ≤ a) = true := by simpa using h1
    rw [d1, Bool.true_and]
    by_cases h2 : a < 65536
    · have d2 : decide (a < 65536) = true := by simpa using h2
      rw [d2]
      go_enter Try.func67, Try.ntmps67
      go_wp2
      go_ret
      exact ⟨rfl, (by repeat (first | assumption | exact Ext.refl _ | refine Ext.alloc ?_ _ | refine Ext.setCell ?_ (by first | omega | (simp; done) | (simp; omega)) _ | refine Ext.trans ?_ (by assumption)))⟩
    · have d2 : decide (a < 65536) = false := by simpa using h2
      rw [d2]
      go_enter Try.func67, Try.ntmps67
      go_wp2
      go_ret
      exact ⟨rfl, (by repeat (first | assumption | exact Ext.refl _ | refine Ext.alloc ?_ _ | refine Ext.setCell ?_ (by first | omega | (simp; done) | (simp; omega)) _ | refine Ext.trans ?_ (by assumption)))⟩
  · have d1 : decide (0 ≤ a) = false := by simpa using h1
    rw [d1, Bool.false_and]
    go_enter Try.func67, Try.ntmps67
    go_wp2
    go_ret
    exact ⟨rfl, (by repeat (first | assumption | exact Ext.refl _ | refine Ext.alloc ?_ _ | refine Ext.setCell ?_ (by first | omega | (simp; done) | (simp; omega)) _ | refine Ext.trans ?_ (by assumption)))⟩
theorem okW_bd {x : W} (h : okW x = true) : 0 ≤ x.2 ∧ x.2 < 65536 := by unfold okW at h; simpa using h
theorem ok_bd {m : Mom.M} (h : Mom.ok m = true) : 0 ≤ m.1 ∧ m.1 < 65536 ∧ 0 ≤ m.2 ∧ m.2 < 65536 := by unfold Mom.ok at h; simp at h; omega
structure Fr (w : World) (n : Nat) (s : Bool) (a x y : Int) : Prop where
  b0 : Blk w n 37 #[.bool s, .int .i64 a]
  b1 : Blk w (n + 1) 48 #[.int .i64 x, .int .i64 y]
  b2 : Blk w (n + 1 + 1) 48 #[.int .i64 0, .int .i64 0]
theorem Fr.new (w : World) (s : Bool) (a x y : Int) : Fr (((w.alloc (.cells #[.bool s, .int .i64 a] 37)).alloc (.cells #[.int .i64 x, .int .i64 y] 48)).alloc (.cells #[.int .i64 0, .int .i64 0] 48)) w.heap.size s a x y := by
  have hn1 : (w.alloc (.cells #[.bool s, .int .i64 a] 37)).heap.size = w.heap.size + 1 := by simp
  have hn2 : ((w.alloc (.cells #[.bool s, .int .i64 a] 37)).alloc (.cells #[.int .i64 x, .int .i64 y] 48)).heap.size = w.heap.size + 1 + 1 := by simp
  have h1 := Blk.new (w.alloc (.cells #[.bool s, .int .i64 a] 37)) 48 #[.int .i64 x, .int .i64 y]
  have h2 := Blk.new ((w.alloc (.cells #[.bool s, .int .i64 a] 37)).alloc (.cells #[.int .i64 x, .int .i64 y] 48)) 48 #[.int .i64 0, .int .i64 0]
  rw [hn1] at h1
  rw [hn2] at h2
  exact ⟨((Blk.new w _ _).ext ((Ext.refl _).alloc _)).ext ((Ext.refl _).alloc _), h1.ext ((Ext.refl _).alloc _), h2⟩
section
variable {w w' : World} {n : Nat} {s : Bool} {a x y : Int}
theorem Fr.ext (h : Fr w n s a x y) (he : Ext w w') : Fr w' n s a x y := ⟨h.b0.ext he, h.b1.ext he, h.b2.ext he⟩
theorem Fr.cells (h : Fr w n s a x y) : w.cell? ⟨n, 0, none⟩ = some (.bool s) ∧ w.cell? ⟨n, 1, none⟩ = some (.int .i64 a) ∧ w.cell? ⟨n + 1, 0, none⟩ = some (.int .i64 x) ∧ w.cell? ⟨n + 1, 1, none⟩ = some (.int .i64 y) :=
  ⟨h.b0.cell 0, h.b0.cell 1, h.b1.cell 0, h.b1.cell 1⟩
theorem Fr.marks (h : Fr w n s a x y) : w.frozen? ⟨n + 1, 0, none⟩ = false ∧ w.frozen? ⟨n + 1, 1, none⟩ = false ∧ w.frozen? ⟨n + 1 + 1, 0, none⟩ = false ∧ w.frozen? ⟨n + 1 + 1, 1, none⟩ = false :=
  ⟨h.b1.frozen 0, h.b1.frozen 1, h.b2.frozen 0, h.b2.frozen 1⟩
theorem Fr.res (h : Fr w n s a x y) : w.cell? ⟨n + 1 + 1, 0, none⟩ = some (.int .i64 0) ∧ w.cell? ⟨n + 1 + 1, 1, none⟩ = some (.int .i64 0) := ⟨h.b2.cell 0, h.b2.cell 1⟩
theorem Fr.once (h : Fr w n s a x y) (z : Int) : Fr (w.setCell ⟨n + 1, 1, none⟩ (.int .i64 z)) n s a x z := ⟨h.b0.far (by simp) _, h.b1.set_ 1 _, h.b2.far (by simp) _⟩
theorem Fr.twice (h : Fr w n s a x y) (u z : Int) : Fr ((w.setCell ⟨n + 1, 1, none⟩ (.int .i64 u)).setCell ⟨n + 1, 1, none⟩ (.int .i64 z)) n s a x z := (h.once u).once z
theorem Fr.out (h : Fr w n s a x y) (u v : Value) : ((w.setCell ⟨n + 1 + 1, 0, none⟩ u).setCell ⟨n + 1 + 1, 1, none⟩ v).cell? ⟨n + 1 + 1, 0, none⟩ = some u ∧ ((w.setCell ⟨n + 1 + 1, 0, none⟩ u).setCell ⟨n + 1 + 1, 1, none⟩ v).cell? ⟨n + 1 + 1, 1, none⟩ = some v :=
  ⟨((h.b2.set_ 0 u).set_ 1 v).cell 0, ((h.b2.set_ 0 u).set_ 1 v).cell 1⟩
end
set_option maxHeartbeats 1000000 in
theorem walk_bad (x : W) (m : Mom.M) (w : World) (hx : okW x = false) : Calls Try.prog 42 #[wV x, mV m] w fun e w' => e = .returned (.tuple #[mV (0, 0), .int .i64 1]) ∧ Ext w w' := by
  have HM := Lib.hid (fun w => may_any x w)
  rw [hx] at HM
  obtain ⟨s, a⟩ := x
  obtain ⟨x, y⟩ := m
  clear hx
  have F0 := Lib.hid (Fr.new w s a x y)
  have hnn : w.heap.size ≤ w.heap.size := Nat.le_refl _
  go_enter Try.func42, Try.ntmps42
  go_wp2_with fail
  refine (HM.out _).mono ?_
  rintro xe w1 ⟨rfl, he1⟩
  have F1 := Lib.hid (F0.out.ext he1)
  have X1 := Lib.hid (((((Ext.refl w).alloc _).alloc _).alloc _).trans he1)
  clear he1
  obtain ⟨c0, c1, c2, c3⟩ := F1.out.cells
  obtain ⟨f0, f1, f2, f3⟩ := F1.out.marks
  obtain ⟨r0, r1⟩ := F1.out.res
  go_wp2
  have ho := F1.out.out
  exact bodyPost_ret (v := .tuple #[.agg #[.int .i64 0, .int .i64 0], .int .i64 1]) (by simp [results, Try.results42, go_sem, c0, c1, c2, c3, f0, f1, f2, f3, r0, r1, ho]) rfl ⟨rfl, Ext.setCell (Ext.setCell X1.out (by show w.heap.size ≤ _ + 1 + 1; have := hnn; omega) _) (by show w.heap.size ≤ _ + 1 + 1; have := hnn; omega) _⟩
set_option maxHeartbeats 1000000 in
theorem walk_off (x : W) (m : Mom.M) (w : World) (hx : okW x = true) (hm : Mom.ok m = false) : Calls Try.prog 42 #[wV x, mV m] w fun e w' => e = .returned (.tuple #[mV (0, 0), .int .i64 40]) ∧ Ext w w' := by
  have HM := Lib.hid (fun w => may_any x w)
  have HC := Lib.hid (fun w => check_any m w)
  rw [hx] at HM
  rw [hm, if_neg (by simp)] at HC
  obtain ⟨s, a⟩ := x
  obtain ⟨x, y⟩ := m
  clear hx hm
  have F0 := Lib.hid (Fr.new w s a x y)
  have hnn : w.heap.size ≤ w.heap.size := Nat.le_refl _
  go_enter Try.func42, Try.ntmps42
  go_wp2_with fail
  refine (HM.out _).mono ?_
  rintro xe w1 ⟨rfl, he1⟩
  have F1 := Lib.hid (F0.out.ext he1)
  have X1 := Lib.hid (((((Ext.refl w).alloc _).alloc _).alloc _).trans he1)
  clear he1
  obtain ⟨c0, c1, c2, c3⟩ := F1.out.cells
  obtain ⟨f0, f1, f2, f3⟩ := F1.out.marks
  obtain ⟨r0, r1⟩ := F1.out.res
  go_wp2_with fail
  clear c0 c1 c2 c3 f0 f1 f2 f3 r0 r1
  refine (HC.out _).mono ?_
  rintro xe w2 ⟨rfl, he2⟩
  have F2 := Lib.hid (F1.out.ext he2)
  have X2 := Lib.hid (X1.out.trans he2)
  clear he2
  obtain ⟨c0, c1, c2, c3⟩ := F2.out.cells
  obtain ⟨f0, f1, f2, f3⟩ := F2.out.marks
  obtain ⟨r0, r1⟩ := F2.out.res
  go_wp2
  have ho := F2.out.out
  exact bodyPost_ret (v := .tuple #[.agg #[.int .i64 0, .int .i64 0], .int .i64 40]) (by simp [results, Try.results42, go_sem, c0, c1, c2, c3, f0, f1, f2, f3, r0, r1, ho]) rfl ⟨rfl, Ext.setCell (Ext.setCell X2.out (by show w.heap.size ≤ _ + 1 + 1; have := hnn; omega) _) (by show w.heap.size ≤ _ + 1 + 1; have := hnn; omega) _⟩
set_option maxHeartbeats 1000000 in
theorem walk_true (a : Int) (m : Mom.M) (w : World) (hx : okW (true, a) = true) (hm : Mom.ok m = true) (q : Bool) (hq : Mom.ok (stepM (true, a) m) = q) : Calls Try.prog 42 #[wV (true, a), mV m] w fun e w' => e = .returned (.tuple #[mV (if q = true then stepM (true, a) m else (0, 0)), .int .i64 (if q = true then 0 else 40)]) ∧ Ext w w' := by
  have HM := Lib.hid (fun w => may_any (true, a) w)
  have HC := Lib.hid (fun w => check_any m w)
  have HD := Lib.hid (fun w => check_any (stepM (true, a) m) w)
  have hb1 := okW_bd hx
  have hb2 := ok_bd hm
  rw [hx] at HM
  rw [hm, if_pos rfl] at HC
  rw [hq] at HD
  obtain ⟨x, y⟩ := m
  clear hx hm hq
  unfold stepM at *
  simp only [if_true, if_false, Bool.false_eq_true, Int.zero_add] at *
  obtain ⟨ha1, ha2⟩ := hb1
  obtain ⟨hx1, hx2, hy1, hy2⟩ := hb2
  have F0 := Lib.hid (Fr.new w true a x y)
  have hnn : w.heap.size ≤ w.heap.size := Nat.le_refl _
  cases q with
  | true =>
    simp only [if_true] at *
    go_enter Try.func42, Try.ntmps42
    go_wp2_with fail
    refine (HM.out _).mono ?_
    rintro xe w1 ⟨rfl, he1⟩
    have F1 := Lib.hid (F0.out.ext he1)
    have X1 := Lib.hid (((((Ext.refl w).alloc _).alloc _).alloc _).trans he1)
    clear he1
    obtain ⟨c0, c1, c2, c3⟩ := F1.out.cells
    obtain ⟨f0, f1, f2, f3⟩ := F1.out.marks
    obtain ⟨r0, r1⟩ := F1.out.res
    go_wp2_with fail
    clear c0 c1 c2 c3 f0 f1 f2 f3 r0 r1
    refine (HC.out _).mono ?_
    rintro xe w2 ⟨rfl, he2⟩
    have F2 := Lib.hid (F1.out.ext he2)
    have X2 := Lib.hid (X1.out.trans he2)
    clear he2
    obtain ⟨c0, c1, c2, c3⟩ := F2.out.cells
    obtain ⟨f0, f1, f2, f3⟩ := F2.out.marks
    obtain ⟨r0, r1⟩ := F2.out.res
    have tw := fun u z => (F2.out.twice u z).cells.2.2.2
    have tv := fun u z => (F2.out.twice u z).cells.2.2.1
    go_wp2_with fail
    clear c0 c1 c2 c3 f0 f1 f2 f3 r0 r1 tw tv
    refine (HD.out _).mono ?_
    rintro xe w3 ⟨rfl, he3⟩
    have F3 := Lib.hid ((F2.out.twice 0 a).ext he3)
    have X3 := Lib.hid (((X2.out.setCell (p := ⟨w.heap.size + 1, 1, none⟩) (by show w.heap.size ≤ w.heap.size + 1; omega) (.int .i64 0)).setCell (p := ⟨w.heap.size + 1, 1, none⟩) (by show w.heap.size ≤ w.heap.size + 1; omega) (.int .i64 a)).trans he3)
    clear he3
    obtain ⟨c0, c1, c2, c3⟩ := F3.out.cells
    obtain ⟨f0, f1, f2, f3⟩ := F3.out.marks
    obtain ⟨r0, r1⟩ := F3.out.res
    go_wp2
    have ho := F3.out.out
    exact bodyPost_ret (v := .tuple #[.agg #[.int .i64 x, .int .i64 a], .int .i64 0]) (by simp [results, Try.results42, go_sem, c0, c1, c2, c3, f0, f1, f2, f3, r0, r1, ho]) rfl ⟨rfl, Ext.setCell (Ext.setCell X3.out (by show w.heap.size ≤ _ + 1 + 1; have := hnn; omega) _) (by show w.heap.size ≤ _ + 1 + 1; have := hnn; omega) _⟩
  | false =>
    simp only [if_false, Bool.false_eq_true] at *
    go_enter Try.func42, Try.ntmps42
    go_wp2_with fail
    refine (HM.out _).mono ?_
    rintro xe w1 ⟨rfl, he1⟩
    have F1 := Lib.hid (F0.out.ext he1)
    have X1 := Lib.hid (((((Ext.refl w).alloc _).alloc _).alloc _).trans he1)
    clear he1
    obtain ⟨c0, c1, c2, c3⟩ := F1.out.cells
    obtain ⟨f0, f1, f2, f3⟩ := F1.out.marks
    obtain ⟨r0, r1⟩ := F1.out.res
    go_wp2_with fail
    clear c0 c1 c2 c3 f0 f1 f2 f3 r0 r1
    refine (HC.out _).mono ?_
    rintro xe w2 ⟨rfl, he2⟩
    have F2 := Lib.hid (F1.out.ext he2)
    have X2 := Lib.hid (X1.out.trans he2)
    clear he2
    obtain ⟨c0, c1, c2, c3⟩ := F2.out.cells
    obtain ⟨f0, f1, f2, f3⟩ := F2.out.marks
    obtain ⟨r0, r1⟩ := F2.out.res
    have tw := fun u z => (F2.out.twice u z).cells.2.2.2
    have tv := fun u z => (F2.out.twice u z).cells.2.2.1
    go_wp2_with fail
    clear c0 c1 c2 c3 f0 f1 f2 f3 r0 r1 tw tv
    refine (HD.out _).mono ?_
    rintro xe w3 ⟨rfl, he3⟩
    have F3 := Lib.hid ((F2.out.twice 0 a).ext he3)
    have X3 := Lib.hid (((X2.out.setCell (p := ⟨w.heap.size + 1, 1, none⟩) (by show w.heap.size ≤ w.heap.size + 1; omega) (.int .i64 0)).setCell (p := ⟨w.heap.size + 1, 1, none⟩) (by show w.heap.size ≤ w.heap.size + 1; omega) (.int .i64 a)).trans he3)
    clear he3
    obtain ⟨c0, c1, c2, c3⟩ := F3.out.cells
    obtain ⟨f0, f1, f2, f3⟩ := F3.out.marks
    obtain ⟨r0, r1⟩ := F3.out.res
    go_wp2
    have ho := F3.out.out
    exact bodyPost_ret (v := .tuple #[.agg #[.int .i64 0, .int .i64 0], .int .i64 40]) (by simp [results, Try.results42, go_sem, c0, c1, c2, c3, f0, f1, f2, f3, r0, r1, ho]) rfl ⟨rfl, Ext.setCell (Ext.setCell X3.out (by show w.heap.size ≤ _ + 1 + 1; have := hnn; omega) _) (by show w.heap.size ≤ _ + 1 + 1; have := hnn; omega) _⟩
set_option maxHeartbeats 1000000 in
theorem walk_false (a : Int) (m : Mom.M) (w : World) (hx : okW (false, a) = true) (hm : Mom.ok m = true) (q : Bool) (hq : Mom.ok (stepM (false, a) m) = q) : Calls Try.prog 42 #[wV (false, a), mV m] w fun e w' => e = .returned (.tuple #[mV (if q = true then stepM (false, a) m else (0, 0)), .int .i64 (if q = true then 0 else 40)]) ∧ Ext w w' := by
  have HM := Lib.hid (fun w => may_any (false, a) w)
  have HC := Lib.hid (fun w => check_any m w)
  have HD := Lib.hid (fun w => check_any (stepM (false, a) m) w)
  have hb1 := okW_bd hx
  have hb2 := ok_bd hm
  rw [hx] at HM
  rw [hm, if_pos rfl] at HC
  rw [hq] at HD
  obtain ⟨x, y⟩ := m
  clear hx hm hq
  unfold stepM at *
  simp only [if_true, if_false, Bool.false_eq_true, Int.zero_add] at *
  obtain ⟨ha1, ha2⟩ := hb1
  obtain ⟨hx1, hx2, hy1, hy2⟩ := hb2
  have F0 := Lib.hid (Fr.new w false a x y)
  have hnn : w.heap.size ≤ w.heap.size := Nat.le_refl _
  cases q with
  | true =>
    simp only [if_true] at *
    go_enter Try.func42, Try.ntmps42
    go_wp2_with fail
    refine (HM.out _).mono ?_
    rintro xe w1 ⟨rfl, he1⟩
    have F1 := Lib.hid (F0.out.ext he1)
    have X1 := Lib.hid (((((Ext.refl w).alloc _).alloc _).alloc _).trans he1)
    clear he1
    obtain ⟨c0, c1, c2, c3⟩ := F1.out.cells
    obtain ⟨f0, f1, f2, f3⟩ := F1.out.marks
    obtain ⟨r0, r1⟩ := F1.out.res
    go_wp2_with fail
    clear c0 c1 c2 c3 f0 f1 f2 f3 r0 r1
    refine (HC.out _).mono ?_
    rintro xe w2 ⟨rfl, he2⟩
    have F2 := Lib.hid (F1.out.ext he2)
    have X2 := Lib.hid (X1.out.trans he2)
    clear he2
    obtain ⟨c0, c1, c2, c3⟩ := F2.out.cells
    obtain ⟨f0, f1, f2, f3⟩ := F2.out.marks
    obtain ⟨r0, r1⟩ := F2.out.res
    have tw := fun z => (F2.out.once z).cells.2.2.2
    have tv := fun z => (F2.out.once z).cells.2.2.1
    go_wp2_with fail
    clear c0 c1 c2 c3 f0 f1 f2 f3 r0 r1 tw tv
    refine (HD.out _).mono ?_
    rintro xe w3 ⟨rfl, he3⟩
    have F3 := Lib.hid ((F2.out.once (y + a)).ext he3)
    have X3 := Lib.hid ((X2.out.setCell (p := ⟨w.heap.size + 1, 1, none⟩) (by show w.heap.size ≤ w.heap.size + 1; omega) (.int .i64 (y + a))).trans he3)
    clear he3
    obtain ⟨c0, c1, c2, c3⟩ := F3.out.cells
    obtain ⟨f0, f1, f2, f3⟩ := F3.out.marks
    obtain ⟨r0, r1⟩ := F3.out.res
    go_wp2
    have ho := F3.out.out
    exact bodyPost_ret (v := .tuple #[.agg #[.int .i64 x, .int .i64 (y + a)], .int .i64 0]) (by simp [results, Try.results42, go_sem, c0, c1, c2, c3, f0, f1, f2, f3, r0, r1, ho]) rfl ⟨rfl, Ext.setCell (Ext.setCell X3.out (by show w.heap.size ≤ _ + 1 + 1; have := hnn; omega) _) (by show w.heap.size ≤ _ + 1 + 1; have := hnn; omega) _⟩
  | false =>
    simp only [if_false, Bool.false_eq_true] at *
    go_enter Try.func42, Try.ntmps42
    go_wp2_with fail
    refine (HM.out _).mono ?_
    rintro xe w1 ⟨rfl, he1⟩
    have F1 := Lib.hid (F0.out.ext he1)
    have X1 := Lib.hid (((((Ext.refl w).alloc _).alloc _).alloc _).trans he1)
    clear he1
    obtain ⟨c0, c1, c2, c3⟩ := F1.out.cells
    obtain ⟨f0, f1, f2, f3⟩ := F1.out.marks
    obtain ⟨r0, r1⟩ := F1.out.res
    go_wp2_with fail
    clear c0 c1 c2 c3 f0 f1 f2 f3 r0 r1
    refine (HC.out _).mono ?_
    rintro xe w2 ⟨rfl, he2⟩
    have F2 := Lib.hid (F1.out.ext he2)
    have X2 := Lib.hid (X1.out.trans he2)
    clear he2
    obtain ⟨c0, c1, c2, c3⟩ := F2.out.cells
    obtain ⟨f0, f1, f2, f3⟩ := F2.out.marks
    obtain ⟨r0, r1⟩ := F2.out.res
    have tw := fun z => (F2.out.once z).cells.2.2.2
    have tv := fun z => (F2.out.once z).cells.2.2.1
    go_wp2_with fail
    clear c0 c1 c2 c3 f0 f1 f2 f3 r0 r1 tw tv
    refine (HD.out _).mono ?_
    rintro xe w3 ⟨rfl, he3⟩
    have F3 := Lib.hid ((F2.out.once (y + a)).ext he3)
    have X3 := Lib.hid ((X2.out.setCell (p := ⟨w.heap.size + 1, 1, none⟩) (by show w.heap.size ≤ w.heap.size + 1; omega) (.int .i64 (y + a))).trans he3)
    clear he3
    obtain ⟨c0, c1, c2, c3⟩ := F3.out.cells
    obtain ⟨f0, f1, f2, f3⟩ := F3.out.marks
    obtain ⟨r0, r1⟩ := F3.out.res
    go_wp2
    have ho := F3.out.out
    exact bodyPost_ret (v := .tuple #[.agg #[.int .i64 0, .int .i64 0], .int .i64 40]) (by simp [results, Try.results42, go_sem, c0, c1, c2, c3, f0, f1, f2, f3, r0, r1, ho]) rfl ⟨rfl, Ext.setCell (Ext.setCell X3.out (by show w.heap.size ≤ _ + 1 + 1; have := hnn; omega) _) (by show w.heap.size ≤ _ + 1 + 1; have := hnn; omega) _⟩
theorem walk_any (x : W) (m : Mom.M) (w : World) : Calls Try.prog 42 #[wV x, mV m] w fun e w' => e = .returned (.tuple #[mV (walkM x m).1, .int .i64 (walkM x m).2]) ∧ Ext w w' := by
  unfold walkM
  cases hx : okW x with
  | false => exact walk_bad x m w hx
  | true =>
    rw [if_neg (by simp)]
    cases hm : Mom.ok m with
    | false => exact walk_off x m w hx hm
    | true =>
      rw [if_neg (by simp)]
      obtain ⟨s, a⟩ := x
      cases s with
      | true =>
        have h := walk_true a m w hx hm _ rfl
        cases hq : Mom.ok (stepM (true, a) m) with
        | true => rw [hq] at h; exact h
        | false => rw [hq] at h; exact h
      | false =>
        have h := walk_false a m w hx hm _ rfl
        cases hq : Mom.ok (stepM (false, a) m) with
        | true => rw [hq] at h; exact h
        | false => rw [hq] at h; exact h
end Go.Proofs.Ytcacicgkebcdkaa.Mo
namespace Go.Proofs.Ytcacicgkebcdkaa.Mo
open Go.RowKit Go.Ox Go.Shelf
set_option maxHeartbeats 1000000 in
theorem then_bad1 (x y : W) (w : World) (hx : okW x = false) : Calls Try.prog 69 #[wV x, wV y] w fun e w' => e = .returned (.tuple #[wV (false, 0), .int .i64 1]) ∧ Ext w w' := by
  have HM := Lib.hid (fun w => may_any x w)
  rw [hx] at HM
  obtain ⟨s, a⟩ := x
  obtain ⟨t, b⟩ := y
  clear hx
  have F0 := Lib.hid (F3.new w 37 37 37 (.bool s) (.int .i64 a) (.bool t) (.int .i64 b) (.bool false) (.int .i64 0))
  go_enter Try.func69, Try.ntmps69
  go_wp2_with fail
  refine (HM.out _).mono ?_
  rintro xe w1 ⟨rfl, he1⟩
  have F1 := Lib.hid (F0.out.ext he1)
  have X1 := Lib.hid (((((Ext.refl w).alloc _).alloc _).alloc _).trans he1)
  clear he1
  obtain ⟨c0, c1, c2, c3, c4, c5⟩ := F1.out.cells
  obtain ⟨f0, f1, f2, f3, f4, f5⟩ := F1.out.marks
  go_wp2
  have ho := F1.out.out
  exact bodyPost_ret (v := .tuple #[.agg #[.bool false, .int .i64 0], .int .i64 1]) (by simp [results, Try.results69, go_sem, c0, c1, c2, c3, c4, c5, f0, f1, f2, f3, f4, f5, ho]) rfl ⟨rfl, Ext.setCell (Ext.setCell X1.out (by show w.heap.size ≤ w.heap.size + 1 + 1; omega) _) (by show w.heap.size ≤ w.heap.size + 1 + 1; omega) _⟩
set_option maxHeartbeats 1000000 in
theorem then_bad2 (x y : W) (w : World) (hx : okW x = true) (hy : okW y = false) : Calls Try.prog 69 #[wV x, wV y] w fun e w' => e = .returned (.tuple #[wV (false, 0), .int .i64 1]) ∧ Ext w w' := by
  have HM := Lib.hid (fun w => may_any x w)
  have HN := Lib.hid (fun w => may_any y w)
  rw [hx] at HM
  rw [hy] at HN
  obtain ⟨s, a⟩ := x
  obtain ⟨t, b⟩ := y
  clear hx hy
  have F0 := Lib.hid (F3.new w 37 37 37 (.bool s) (.int .i64 a) (.bool t) (.int .i64 b) (.bool false) (.int .i64 0))
  go_enter Try.func69, Try.ntmps69
  go_wp2_with fail
  refine (HM.out _).mono ?_
  rintro xe w1 ⟨rfl, he1⟩
  have F1 := Lib.hid (F0.out.ext he1)
  have X1 := Lib.hid (((((Ext.refl w).alloc _).alloc _).alloc _).trans he1)
  clear he1
  obtain ⟨c0, c1, c2, c3, c4, c5⟩ := F1.out.cells
  obtain ⟨f0, f1, f2, f3, f4, f5⟩ := F1.out.marks
  go_wp2_with fail
  clear c0 c1 c2 c3 c4 c5 f0 f1 f2 f3 f4 f5
  refine (HN.out _).mono ?_
  rintro xe w2 ⟨rfl, he2⟩
  have F2 := Lib.hid (F1.out.ext he2)
  have X2 := Lib.hid (X1.out.trans he2)
  clear he2
  obtain ⟨c0, c1, c2, c3, c4, c5⟩ := F2.out.cells
  obtain ⟨f0, f1, f2, f3, f4, f5⟩ := F2.out.marks
  go_wp2
  have ho := F2.out.out
  exact bodyPost_ret (v := .tuple #[.agg #[.bool false, .int .i64 0], .int .i64 1]) (by simp [results, Try.results69, go_sem, c0, c1, c2, c3, c4, c5, f0, f1, f2, f3, f4, f5, ho]) rfl ⟨rfl, Ext.setCell (Ext.setCell X2.out (by show w.heap.size ≤ w.heap.size + 1 + 1; omega) _) (by show w.heap.size ≤ w.heap.size + 1 + 1; omega) _⟩
set_option maxHeartbeats 1000000 in
theorem then_set (x : W) (b : Int) (w : World) (hx : okW x = true) (hy : okW (true, b) = true) : Calls Try.prog 69 #[wV x, wV (true, b)] w fun e w' => e = .returned (.tuple #[wV (true, b), .int .i64 0]) ∧ Ext w w' := by
  have HM := Lib.hid (fun w => may_any x w)
  have HN := Lib.hid (fun w => may_any (true, b) w)
  have hbx := okW_bd hx
  have hby := okW_bd hy
  rw [hx] at HM
  rw [hy] at HN
  obtain ⟨s, a⟩ := x
  clear hx hy
  dsimp only at hbx hby
  obtain ⟨ha1, ha2⟩ := hbx
  obtain ⟨hb1, hb2⟩ := hby
  have F0 := Lib.hid (F3.new w 37 37 37 (.bool s) (.int .i64 a) (.bool true) (.int .i64 b) (.bool false) (.int .i64 0))
  go_enter Try.func69, Try.ntmps69
  go_wp2_with fail
  refine (HM.out _).mono ?_
  rintro xe w1 ⟨rfl, he1⟩
  have F1 := Lib.hid (F0.out.ext he1)
  have X1 := Lib.hid (((((Ext.refl w).alloc _).alloc _).alloc _).trans he1)
  clear he1
  obtain ⟨c0, c1, c2, c3, c4, c5⟩ := F1.out.cells
  obtain ⟨f0, f1, f2, f3, f4, f5⟩ := F1.out.marks
  go_wp2_with fail
  clear c0 c1 c2 c3 c4 c5 f0 f1 f2 f3 f4 f5
  refine (HN.out _).mono ?_
  rintro xe w2 ⟨rfl, he2⟩
  have F2 := Lib.hid (F1.out.ext he2)
  have X2 := Lib.hid (X1.out.trans he2)
  clear he2
  obtain ⟨c0, c1, c2, c3, c4, c5⟩ := F2.out.cells
  obtain ⟨f0, f1, f2, f3, f4, f5⟩ := F2.out.marks
  go_wp2_with fail
  clear c0 c1 c2 c3 c4 c5 f0 f1 f2 f3 f4 f5
  refine (HN.out _).mono ?_
  rintro xe w3 ⟨rfl, he3⟩
  have F3 := Lib.hid (F2.out.ext he3)
  have X3 := Lib.hid (X2.out.trans he3)
  clear he3
  obtain ⟨c0, c1, c2, c3, c4, c5⟩ := F3.out.cells
  obtain ⟨f0, f1, f2, f3, f4, f5⟩ := F3.out.marks
  go_wp2
  have ho := F3.out.out
  exact bodyPost_ret (v := .tuple #[.agg #[.bool true, .int .i64 b], .int .i64 0]) (by simp [results, Try.results69, go_sem, c0, c1, c2, c3, c4, c5, f0, f1, f2, f3, f4, f5, ho]) rfl ⟨rfl, Ext.setCell (Ext.setCell X3.out (by show w.heap.size ≤ w.heap.size + 1 + 1; omega) _) (by show w.heap.size ≤ w.heap.size + 1 + 1; omega) _⟩
set_option maxHeartbeats 1000000 in
theorem then_add (x : W) (b : Int) (w : World) (hx : okW x = true) (hy : okW (false, b) = true) (q : Bool) (hq : okW (x.1, x.2 + b) = q) : Calls Try.prog 69 #[wV x, wV (false, b)] w fun e w' => e = .returned (.tuple #[wV (if q = true then (x.1, x.2 + b) else (false, 0)), if q = true then .int .i64 0 else .int .i64 1]) ∧ Ext w w' := by
  have HD := Lib.hid (fun w => may_any (x.1, x.2 + b) w)
  rw [hq] at HD
  clear hq
  have HM := Lib.hid (fun w => may_any x w)
  have HN := Lib.hid (fun w => may_any (false, b) w)
  have hbx := okW_bd hx
  have hby := okW_bd hy
  rw [hx] at HM
  rw [hy] at HN
  obtain ⟨s, a⟩ := x
  clear hx hy
  dsimp only at hbx hby
  obtain ⟨ha1, ha2⟩ := hbx
  obtain ⟨hb1, hb2⟩ := hby
  dsimp only at HD ⊢
  have F0 := Lib.hid (F3.new w 37 37 37 (.bool s) (.int .i64 a) (.bool false) (.int .i64 b) (.bool false) (.int .i64 0))
  cases q with
  | true =>
    simp only [if_true, if_false, Bool.false_eq_true] at *
    go_enter Try.func69, Try.ntmps69
    go_wp2_with fail
    refine (HM.out _).mono ?_
    rintro xe w1 ⟨rfl, he1⟩
    have F1 := Lib.hid (F0.out.ext he1)
    have X1 := Lib.hid (((((Ext.refl w).alloc _).alloc _).alloc _).trans he1)
    clear he1
    obtain ⟨c0, c1, c2, c3, c4, c5⟩ := F1.out.cells
    obtain ⟨f0, f1, f2, f3, f4, f5⟩ := F1.out.marks
    go_wp2_with fail
    clear c0 c1 c2 c3 c4 c5 f0 f1 f2 f3 f4 f5
    refine (HN.out _).mono ?_
    rintro xe w2 ⟨rfl, he2⟩
    have F2 := Lib.hid (F1.out.ext he2)
    have X2 := Lib.hid (X1.out.trans he2)
    clear he2
    obtain ⟨c0, c1, c2, c3, c4, c5⟩ := F2.out.cells
    obtain ⟨f0, f1, f2, f3, f4, f5⟩ := F2.out.marks
    have tw := fun z u => ((F2.out.set10 z).set11 u).cells.2.2.1
    have tv := fun z u => ((F2.out.set10 z).set11 u).cells.2.2.2.1
    go_wp2_with fail
    clear c0 c1 c2 c3 c4 c5 f0 f1 f2 f3 f4 f5 tw tv
    refine (HD.out _).mono ?_
    rintro xe w3 ⟨rfl, he3⟩
    have F3 := Lib.hid (((F2.out.set10 (.bool s)).set11 (.int .i64 (a + b))).ext he3)
    have X3 := Lib.hid (((X2.out.setCell (p := ⟨w.heap.size + 1, 0, none⟩) (by show w.heap.size ≤ w.heap.size + 1; omega) (.bool s)).setCell (p := ⟨w.heap.size + 1, 1, none⟩) (by show w.heap.size ≤ w.heap.size + 1; omega) (.int .i64 (a + b))).trans he3)
    clear he3
    obtain ⟨c0, c1, c2, c3, c4, c5⟩ := F3.out.cells
    obtain ⟨f0, f1, f2, f3, f4, f5⟩ := F3.out.marks
    go_wp2
    have ho := F3.out.out
    exact bodyPost_ret (v := .tuple #[.agg #[.bool s, .int .i64 (a + b)], .int .i64 0]) (by simp [results, Try.results69, go_sem, c0, c1, c2, c3, c4, c5, f0, f1, f2, f3, f4, f5, ho]) rfl ⟨rfl, Ext.setCell (Ext.setCell X3.out (by show w.heap.size ≤ w.heap.size + 1 + 1; omega) _) (by show w.heap.size ≤ w.heap.size + 1 + 1; omega) _⟩
  | false =>
    simp only [if_true, if_false, Bool.false_eq_true] at *
    go_enter Try.func69, Try.ntmps69
    go_wp2_with fail
    refine (HM.out _).mono ?_
    rintro xe w1 ⟨rfl, he1⟩
    have F1 := Lib.hid (F0.out.ext he1)
    have X1 := Lib.hid (((((Ext.refl w).alloc _).alloc _).alloc _).trans he1)
    clear he1
    obtain ⟨c0, c1, c2, c3, c4, c5⟩ := F1.out.cells
    obtain ⟨f0, f1, f2, f3, f4, f5⟩ := F1.out.marks
    go_wp2_with fail
    clear c0 c1 c2 c3 c4 c5 f0 f1 f2 f3 f4 f5
    refine (HN.out _).mono ?_
    rintro xe w2 ⟨rfl, he2⟩
    have F2 := Lib.hid (F1.out.ext he2)
    have X2 := Lib.hid (X1.out.trans he2)
    clear he2
    obtain ⟨c0, c1, c2, c3, c4, c5⟩ := F2.out.cells
    obtain ⟨f0, f1, f2, f3, f4, f5⟩ := F2.out.marks
    have tw := fun z u => ((F2.out.set10 z).set11 u).cells.2.2.1
    have tv := fun z u => ((F2.out.set10 z).set11 u).cells.2.2.2.1
    go_wp2_with fail
    clear c0 c1 c2 c3 c4 c5 f0 f1 f2 f3 f4 f5 tw tv
    refine (HD.out _).mono ?_
    rintro xe w3 ⟨rfl, he3⟩
    have F3 := Lib.hid (((F2.out.set10 (.bool s)).set11 (.int .i64 (a + b))).ext he3)
    have X3 := Lib.hid (((X2.out.setCell (p := ⟨w.heap.size + 1, 0, none⟩) (by show w.heap.size ≤ w.heap.size + 1; omega) (.bool s)).setCell (p := ⟨w.heap.size + 1, 1, none⟩) (by show w.heap.size ≤ w.heap.size + 1; omega) (.int .i64 (a + b))).trans he3)
    clear he3
    obtain ⟨c0, c1, c2, c3, c4, c5⟩ := F3.out.cells
    obtain ⟨f0, f1, f2, f3, f4, f5⟩ := F3.out.marks
    go_wp2
    have ho := F3.out.out
    exact bodyPost_ret (v := .tuple #[.agg #[.bool false, .int .i64 0], .int .i64 1]) (by simp [results, Try.results69, go_sem, c0, c1, c2, c3, c4, c5, f0, f1, f2, f3, f4, f5, ho]) rfl ⟨rfl, Ext.setCell (Ext.setCell X3.out (by show w.heap.size ≤ w.heap.size + 1 + 1; omega) _) (by show w.heap.size ≤ w.heap.size + 1 + 1; omega) _⟩
theorem then_any (x y : W) (w : World) : Calls Try.prog 69 #[wV x, wV y] w fun e w' => e = .returned (.tuple #[wV (thenW x y).1, .int .i64 (thenW x y).2]) ∧ Ext w w' := by
  unfold thenW
  cases hx : okW x with
  | false => rw [if_pos (.inl rfl)]; exact then_bad1 x y w hx
  | true =>
    cases hy : okW y with
    | false => rw [if_pos (.inr rfl)]; exact then_bad2 x y w hx hy
    | true =>
      rw [if_neg (by simp)]
      unfold bothW
      obtain ⟨t, b⟩ := y
      cases t with
      | true => rw [if_pos rfl, hy, if_neg (by simp)]; exact then_set x b w hx hy
      | false =>
        have h := then_add x b w hx hy _ rfl
        have e : (if ((false, b) : W).1 = true then ((false, b) : W) else (x.1, x.2 + ((false, b) : W).2)) = (x.1, x.2 + b) := by simp
        rw [e]
        cases hq : okW (x.1, x.2 + b) with
        | true => rw [hq] at h; exact h
        | false => rw [hq] at h; exact h
end Go.Proofs.Ytcacicgkebcdkaa.Mo
