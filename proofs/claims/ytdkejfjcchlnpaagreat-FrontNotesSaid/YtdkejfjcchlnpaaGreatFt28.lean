/-
  MomThen, packed: what the claim needs of them.
-/
import Derived.Test.YtdkejfjcchlnpaaGreatFt27
set_option maxHeartbeats 40000000
open Go.Lib (hid)
set_option linter.unusedSimpArgs false
set_option linter.unusedVariables false
set_option maxRecDepth 100000
namespace Go.Proofs.YtdkejfjcchlnpaaGreat.Mo
open Go.RowKit Go.Ox Go.Shelf
theorem b2K (x : W) (m : Mom.M) (w : World) (hx : okW x = false) : Calls Tryz.prog 56 #[wV x, mV m] w fun e w' => e = .returned (.tuple #[mV (0, 0), .int .i64 1]) ∧ Ext w w' := by
 have HM := hid (fun w => a0U x w)
 rw [hx] at HM;obtain ⟨s, a⟩ := x;obtain ⟨x, y⟩ := m;clear hx;have F0 := hid (F3.new w 107 29 29 (.bool s) (.int .i64 a) (.int .i64 x) (.int .i64 y) (.int .i64 0) (.int .i64 0))
 go_enter Tryz.func56, Tryz.ntmps56
 go_wp2_with fail
 refine (HM.o _).mono ?_;rintro xe w1 ⟨rfl, he1⟩;have F1 := hid (F0.o.ext he1);have X1 := hid (((((Ext.refl w).alloc _).alloc _).alloc _).trans he1);clear he1;obtain ⟨c0, c1, c2, c3, c4, c5⟩ := F1.o.cells;obtain ⟨f0, f1, f2, f3, f4, f5⟩ := F1.o.marks
 go_wp2
 have ho := F1.o.o;exact bodyPost_ret (v := .tuple #[.agg #[.int .i64 0, .int .i64 0], .int .i64 1]) (by simp [results, Tryz.results56, go_sem, c0, c1, c2, c3, c4, c5, f0, f1, f2, f3, f4, f5, ho]) rfl ⟨rfl, Ext.setCell (Ext.setCell X1.o (by show w.heap.size <= w.heap.size + 1 + 1; omega) _) (by show w.heap.size <= w.heap.size + 1 + 1; omega) _⟩
theorem b2L (x : W) (m : Mom.M) (w : World) (hx : okW x = true) (hm : Mom.ok m = false) : Calls Tryz.prog 56 #[wV x, mV m] w fun e w' => e = .returned (.tuple #[mV (0, 0), .int .i64 40]) ∧ Ext w w' := by
 have HM := hid (fun w => a0U x w)
 have HC := hid (fun w => a0w m w)
 rw [hx] at HM;rw [hm] at HC;obtain ⟨s, a⟩ := x;obtain ⟨x, y⟩ := m;clear hx hm;have F0 := hid (F3.new w 107 29 29 (.bool s) (.int .i64 a) (.int .i64 x) (.int .i64 y) (.int .i64 0) (.int .i64 0))
 go_enter Tryz.func56, Tryz.ntmps56
 go_wp2_with fail
 refine (HM.o _).mono ?_;rintro xe w1 ⟨rfl, he1⟩;have F1 := hid (F0.o.ext he1);have X1 := hid (((((Ext.refl w).alloc _).alloc _).alloc _).trans he1);clear he1;obtain ⟨c0, c1, c2, c3, c4, c5⟩ := F1.o.cells;obtain ⟨f0, f1, f2, f3, f4, f5⟩ := F1.o.marks
 go_wp2_with fail
 clear c0 c1 c2 c3 c4 c5 f0 f1 f2 f3 f4 f5;refine (HC.o _).mono ?_;rintro xe w2 ⟨rfl, he2⟩;have F2 := hid (F1.o.ext he2);have X2 := hid (X1.o.trans he2);clear he2;obtain ⟨c0, c1, c2, c3, c4, c5⟩ := F2.o.cells;obtain ⟨f0, f1, f2, f3, f4, f5⟩ := F2.o.marks
 go_wp2
 have ho := F2.o.o;exact bodyPost_ret (v := .tuple #[.agg #[.int .i64 0, .int .i64 0], .int .i64 40]) (by simp [results, Tryz.results56, go_sem, c0, c1, c2, c3, c4, c5, f0, f1, f2, f3, f4, f5, ho]) rfl ⟨rfl, Ext.setCell (Ext.setCell X2.o (by show w.heap.size <= w.heap.size + 1 + 1; omega) _) (by show w.heap.size <= w.heap.size + 1 + 1; omega) _⟩
theorem b0Z (a : Int) (m : Mom.M) (w : World) (hx : okW (true, a) = true) (hm : Mom.ok m = true) (q : Bool) (hq : Mom.ok (a1B (true, a) m) = q) : Calls Tryz.prog 56 #[wV (true, a), mV m] w fun e w' => e = .returned (.tuple #[mV (if q = true then a1B (true, a) m else (0, 0)), .int .i64 (if q = true then 0 else 40)]) ∧ Ext w w' := by
 have HM := hid (fun w => a0U (true, a) w)
 have HC := hid (fun w => a0w m w)
 have HD := hid (fun w => a0w (a1B (true, a) m) w)
 have hb1 := a2G hx;have hb2 := b4D hm;rw [hx] at HM;rw [hm] at HC;rw [hq] at HD;obtain ⟨x, y⟩ := m;clear hx hm hq;unfold a1B at *;simp only [if_true, if_false, Bool.false_eq_true, Int.zero_add] at *;obtain ⟨ha1, ha2⟩ := hb1;obtain ⟨hx1, hx2, hy1, hy2⟩ := hb2;have F0 := hid (F3.new w 107 29 29 (.bool true) (.int .i64 a) (.int .i64 x) (.int .i64 y) (.int .i64 0) (.int .i64 0))
 cases q with
 | true =>
  simp only [if_true, if_false, Bool.false_eq_true] at *
  go_enter Tryz.func56, Tryz.ntmps56
  go_wp2_with fail
  refine (HM.o _).mono ?_;rintro xe w1 ⟨rfl, he1⟩;have F1 := hid (F0.o.ext he1);have X1 := hid (((((Ext.refl w).alloc _).alloc _).alloc _).trans he1);clear he1;obtain ⟨c0, c1, c2, c3, c4, c5⟩ := F1.o.cells;obtain ⟨f0, f1, f2, f3, f4, f5⟩ := F1.o.marks
  go_wp2_with fail
  clear c0 c1 c2 c3 c4 c5 f0 f1 f2 f3 f4 f5;refine (HC.o _).mono ?_;rintro xe w2 ⟨rfl, he2⟩;have F2 := hid (F1.o.ext he2);have X2 := hid (X1.o.trans he2);clear he2;obtain ⟨c0, c1, c2, c3, c4, c5⟩ := F2.o.cells;obtain ⟨f0, f1, f2, f3, f4, f5⟩ := F2.o.marks;have tw := fun z => (F2.o.a2H z).cells.2.2.2.1
  have tv := fun z => (F2.o.a2H z).cells.2.2.1
  go_wp2_with fail
  clear c0 c1 c2 c3 c4 c5 f0 f1 f2 f3 f4 f5 tw tv;refine (HD.o _).mono ?_;rintro xe w3 ⟨rfl, he3⟩;have F3 := hid ((F2.o.a2H (.int .i64 a)).ext he3);have X3 := hid ((X2.o.setCell (p := ⟨w.heap.size + 1, 1, none⟩) (by show w.heap.size <= w.heap.size + 1; omega) (.int .i64 a)).trans he3)
  clear he3;obtain ⟨c0, c1, c2, c3, c4, c5⟩ := F3.o.cells;obtain ⟨f0, f1, f2, f3, f4, f5⟩ := F3.o.marks
  go_wp2
  have ho := F3.o.o;exact bodyPost_ret (v := .tuple #[.agg #[.int .i64 x, .int .i64 a], .int .i64 0]) (by simp [results, Tryz.results56, go_sem, c0, c1, c2, c3, c4, c5, f0, f1, f2, f3, f4, f5, ho]) rfl ⟨rfl, Ext.setCell (Ext.setCell X3.o (by show w.heap.size <= w.heap.size + 1 + 1; omega) _) (by show w.heap.size <= w.heap.size + 1 + 1; omega) _⟩
 | false =>
 simp only [if_true, if_false, Bool.false_eq_true] at *
 go_enter Tryz.func56, Tryz.ntmps56
 go_wp2_with fail
 refine (HM.o _).mono ?_;rintro xe w1 ⟨rfl, he1⟩;have F1 := hid (F0.o.ext he1);have X1 := hid (((((Ext.refl w).alloc _).alloc _).alloc _).trans he1);clear he1;obtain ⟨c0, c1, c2, c3, c4, c5⟩ := F1.o.cells;obtain ⟨f0, f1, f2, f3, f4, f5⟩ := F1.o.marks
 go_wp2_with fail
 clear c0 c1 c2 c3 c4 c5 f0 f1 f2 f3 f4 f5;refine (HC.o _).mono ?_;rintro xe w2 ⟨rfl, he2⟩;have F2 := hid (F1.o.ext he2);have X2 := hid (X1.o.trans he2);clear he2;obtain ⟨c0, c1, c2, c3, c4, c5⟩ := F2.o.cells;obtain ⟨f0, f1, f2, f3, f4, f5⟩ := F2.o.marks;have tw := fun z => (F2.o.a2H z).cells.2.2.2.1
 have tv := fun z => (F2.o.a2H z).cells.2.2.1
 go_wp2_with fail
 clear c0 c1 c2 c3 c4 c5 f0 f1 f2 f3 f4 f5 tw tv;refine (HD.o _).mono ?_;rintro xe w3 ⟨rfl, he3⟩;have F3 := hid ((F2.o.a2H (.int .i64 a)).ext he3);have X3 := hid ((X2.o.setCell (p := ⟨w.heap.size + 1, 1, none⟩) (by show w.heap.size <= w.heap.size + 1; omega) (.int .i64 a)).trans he3)
 clear he3;obtain ⟨c0, c1, c2, c3, c4, c5⟩ := F3.o.cells;obtain ⟨f0, f1, f2, f3, f4, f5⟩ := F3.o.marks
 go_wp2
 have ho := F3.o.o;exact bodyPost_ret (v := .tuple #[.agg #[.int .i64 0, .int .i64 0], .int .i64 40]) (by simp [results, Tryz.results56, go_sem, c0, c1, c2, c3, c4, c5, f0, f1, f2, f3, f4, f5, ho]) rfl ⟨rfl, Ext.setCell (Ext.setCell X3.o (by show w.heap.size <= w.heap.size + 1 + 1; omega) _) (by show w.heap.size <= w.heap.size + 1 + 1; omega) _⟩
theorem a9a (a : Int) (m : Mom.M) (w : World) (hx : okW (false, a) = true) (hm : Mom.ok m = true) (q : Bool) (hq : Mom.ok (a1B (false, a) m) = q) : Calls Tryz.prog 56 #[wV (false, a), mV m] w fun e w' => e = .returned (.tuple #[mV (if q = true then a1B (false, a) m else (0, 0)), .int .i64 (if q = true then 0 else 40)]) ∧ Ext w w' := by
 have HM := hid (fun w => a0U (false, a) w)
 have HC := hid (fun w => a0w m w)
 have HD := hid (fun w => a0w (a1B (false, a) m) w)
 have hb1 := a2G hx;have hb2 := b4D hm;rw [hx] at HM;rw [hm] at HC;rw [hq] at HD;obtain ⟨x, y⟩ := m;clear hx hm hq;unfold a1B at *;simp only [if_true, if_false, Bool.false_eq_true, Int.zero_add] at *;obtain ⟨ha1, ha2⟩ := hb1;obtain ⟨hx1, hx2, hy1, hy2⟩ := hb2;have F0 := hid (F3.new w 107 29 29 (.bool false) (.int .i64 a) (.int .i64 x) (.int .i64 y) (.int .i64 0) (.int .i64 0))
 cases q with
 | true =>
  simp only [if_true, if_false, Bool.false_eq_true] at *
  go_enter Tryz.func56, Tryz.ntmps56
  go_wp2_with fail
  refine (HM.o _).mono ?_;rintro xe w1 ⟨rfl, he1⟩;have F1 := hid (F0.o.ext he1);have X1 := hid (((((Ext.refl w).alloc _).alloc _).alloc _).trans he1);clear he1;obtain ⟨c0, c1, c2, c3, c4, c5⟩ := F1.o.cells;obtain ⟨f0, f1, f2, f3, f4, f5⟩ := F1.o.marks
  go_wp2_with fail
  clear c0 c1 c2 c3 c4 c5 f0 f1 f2 f3 f4 f5;refine (HC.o _).mono ?_;rintro xe w2 ⟨rfl, he2⟩;have F2 := hid (F1.o.ext he2);have X2 := hid (X1.o.trans he2);clear he2;obtain ⟨c0, c1, c2, c3, c4, c5⟩ := F2.o.cells;obtain ⟨f0, f1, f2, f3, f4, f5⟩ := F2.o.marks;have tw := fun z => (F2.o.a2H z).cells.2.2.2.1
  have tv := fun z => (F2.o.a2H z).cells.2.2.1
  go_wp2_with fail
  clear c0 c1 c2 c3 c4 c5 f0 f1 f2 f3 f4 f5 tw tv;refine (HD.o _).mono ?_;rintro xe w3 ⟨rfl, he3⟩;have F3 := hid ((F2.o.a2H (.int .i64 (y + a))).ext he3);have X3 := hid ((X2.o.setCell (p := ⟨w.heap.size + 1, 1, none⟩) (by show w.heap.size <= w.heap.size + 1; omega) (.int .i64 (y + a))).trans he3)
  clear he3;obtain ⟨c0, c1, c2, c3, c4, c5⟩ := F3.o.cells;obtain ⟨f0, f1, f2, f3, f4, f5⟩ := F3.o.marks
  go_wp2
  have ho := F3.o.o;exact bodyPost_ret (v := .tuple #[.agg #[.int .i64 x, .int .i64 (y + a)], .int .i64 0]) (by simp [results, Tryz.results56, go_sem, c0, c1, c2, c3, c4, c5, f0, f1, f2, f3, f4, f5, ho]) rfl ⟨rfl, Ext.setCell (Ext.setCell X3.o (by show w.heap.size <= w.heap.size + 1 + 1; omega) _) (by show w.heap.size <= w.heap.size + 1 + 1; omega) _⟩
 | false =>
 simp only [if_true, if_false, Bool.false_eq_true] at *
 go_enter Tryz.func56, Tryz.ntmps56
 go_wp2_with fail
 refine (HM.o _).mono ?_;rintro xe w1 ⟨rfl, he1⟩;have F1 := hid (F0.o.ext he1);have X1 := hid (((((Ext.refl w).alloc _).alloc _).alloc _).trans he1);clear he1;obtain ⟨c0, c1, c2, c3, c4, c5⟩ := F1.o.cells;obtain ⟨f0, f1, f2, f3, f4, f5⟩ := F1.o.marks
 go_wp2_with fail
 clear c0 c1 c2 c3 c4 c5 f0 f1 f2 f3 f4 f5;refine (HC.o _).mono ?_;rintro xe w2 ⟨rfl, he2⟩;have F2 := hid (F1.o.ext he2);have X2 := hid (X1.o.trans he2);clear he2;obtain ⟨c0, c1, c2, c3, c4, c5⟩ := F2.o.cells;obtain ⟨f0, f1, f2, f3, f4, f5⟩ := F2.o.marks;have tw := fun z => (F2.o.a2H z).cells.2.2.2.1
 have tv := fun z => (F2.o.a2H z).cells.2.2.1
 go_wp2_with fail
 clear c0 c1 c2 c3 c4 c5 f0 f1 f2 f3 f4 f5 tw tv;refine (HD.o _).mono ?_;rintro xe w3 ⟨rfl, he3⟩;have F3 := hid ((F2.o.a2H (.int .i64 (y + a))).ext he3);have X3 := hid ((X2.o.setCell (p := ⟨w.heap.size + 1, 1, none⟩) (by show w.heap.size <= w.heap.size + 1; omega) (.int .i64 (y + a))).trans he3)
 clear he3;obtain ⟨c0, c1, c2, c3, c4, c5⟩ := F3.o.cells;obtain ⟨f0, f1, f2, f3, f4, f5⟩ := F3.o.marks
 go_wp2
 have ho := F3.o.o;exact bodyPost_ret (v := .tuple #[.agg #[.int .i64 0, .int .i64 0], .int .i64 40]) (by simp [results, Tryz.results56, go_sem, c0, c1, c2, c3, c4, c5, f0, f1, f2, f3, f4, f5, ho]) rfl ⟨rfl, Ext.setCell (Ext.setCell X3.o (by show w.heap.size <= w.heap.size + 1 + 1; omega) _) (by show w.heap.size <= w.heap.size + 1 + 1; omega) _⟩
theorem b2M (x : W) (m : Mom.M) (w : World) : Calls Tryz.prog 56 #[wV x, mV m] w fun e w' => e = .returned (.tuple #[mV (a1f x m).1, .int .i64 (a1f x m).2]) ∧ Ext w w' := by
 unfold a1f
 cases hx : okW x with
 | false => exact b2K x m w hx
 | true =>
 rw [if_neg (by simp)]
 cases hm : Mom.ok m with
 | false => exact b2L x m w hx hm
 | true =>
 rw [if_neg (by simp)]
 obtain ⟨s, a⟩ := x
 cases s with
 | true =>
  have h := b0Z a m w hx hm _ rfl
  cases hq : Mom.ok (a1B (true, a) m) with
  | true => rw [hq] at h; exact h
  | false => rw [hq] at h; exact h
 | false =>
 have h := a9a a m w hx hm _ rfl
 cases hq : Mom.ok (a1B (false, a) m) with
 | true => rw [hq] at h; exact h
 | false => rw [hq] at h; exact h
theorem b2N (x y : W) (w : World) (hx : okW x = false) : Calls Tryz.prog 137 #[wV x, wV y] w fun e w' => e = .returned (.tuple #[wV (false, 0), .int .i64 1]) ∧ Ext w w' := by
 have HM := hid (fun w => a1E x w)
 rw [hx] at HM;obtain ⟨s, a⟩ := x;obtain ⟨t, b⟩ := y;clear hx;have F0 := hid (F3.new w 107 107 107 (.bool s) (.int .i64 a) (.bool t) (.int .i64 b) (.bool false) (.int .i64 0))
 go_enter Tryz.func137, Tryz.ntmps137
 go_wp2_with fail
 refine (HM.o _).mono ?_;rintro xe w1 ⟨rfl, he1⟩;have F1 := hid (F0.o.ext he1);have X1 := hid (((((Ext.refl w).alloc _).alloc _).alloc _).trans he1);clear he1;obtain ⟨c0, c1, c2, c3, c4, c5⟩ := F1.o.cells;obtain ⟨f0, f1, f2, f3, f4, f5⟩ := F1.o.marks
 go_wp2
 have ho := F1.o.o;exact bodyPost_ret (v := .tuple #[.agg #[.bool false, .int .i64 0], .int .i64 1]) (by simp [results, Tryz.results137, go_sem, c0, c1, c2, c3, c4, c5, f0, f1, f2, f3, f4, f5, ho]) rfl ⟨rfl, Ext.setCell (Ext.setCell X1.o (by show w.heap.size <= w.heap.size + 1 + 1; omega) _) (by show w.heap.size <= w.heap.size + 1 + 1; omega) _⟩
theorem b2O (x y : W) (w : World) (hx : okW x = true) (hy : okW y = false) : Calls Tryz.prog 137 #[wV x, wV y] w fun e w' => e = .returned (.tuple #[wV (false, 0), .int .i64 1]) ∧ Ext w w' := by
 have HM := hid (fun w => a1E x w)
 have HN := hid (fun w => a1E y w)
 rw [hx] at HM;rw [hy] at HN;obtain ⟨s, a⟩ := x;obtain ⟨t, b⟩ := y;clear hx hy;have F0 := hid (F3.new w 107 107 107 (.bool s) (.int .i64 a) (.bool t) (.int .i64 b) (.bool false) (.int .i64 0))
 go_enter Tryz.func137, Tryz.ntmps137
 go_wp2_with fail
 refine (HM.o _).mono ?_;rintro xe w1 ⟨rfl, he1⟩;have F1 := hid (F0.o.ext he1);have X1 := hid (((((Ext.refl w).alloc _).alloc _).alloc _).trans he1);clear he1;obtain ⟨c0, c1, c2, c3, c4, c5⟩ := F1.o.cells;obtain ⟨f0, f1, f2, f3, f4, f5⟩ := F1.o.marks
 go_wp2_with fail
 clear c0 c1 c2 c3 c4 c5 f0 f1 f2 f3 f4 f5;refine (HN.o _).mono ?_;rintro xe w2 ⟨rfl, he2⟩;have F2 := hid (F1.o.ext he2);have X2 := hid (X1.o.trans he2);clear he2;obtain ⟨c0, c1, c2, c3, c4, c5⟩ := F2.o.cells;obtain ⟨f0, f1, f2, f3, f4, f5⟩ := F2.o.marks
 go_wp2
 have ho := F2.o.o;exact bodyPost_ret (v := .tuple #[.agg #[.bool false, .int .i64 0], .int .i64 1]) (by simp [results, Tryz.results137, go_sem, c0, c1, c2, c3, c4, c5, f0, f1, f2, f3, f4, f5, ho]) rfl ⟨rfl, Ext.setCell (Ext.setCell X2.o (by show w.heap.size <= w.heap.size + 1 + 1; omega) _) (by show w.heap.size <= w.heap.size + 1 + 1; omega) _⟩
theorem b4G (x : W) (b : Int) (w : World) (hx : okW x = true) (hy : okW (true, b) = true) : Calls Tryz.prog 137 #[wV x, wV (true, b)] w fun e w' => e = .returned (.tuple #[wV (true, b), .int .i64 0]) ∧ Ext w w' := by
 have HM := hid (fun w => a1E x w)
 have HN := hid (fun w => a1E (true, b) w)
 have hbx := a2G hx;have hby := a2G hy;rw [hx] at HM;rw [hy] at HN;obtain ⟨s, a⟩ := x;clear hx hy;dsimp only at hbx hby;obtain ⟨ha1, ha2⟩ := hbx;obtain ⟨hb1, hb2⟩ := hby;have F0 := hid (F3.new w 107 107 107 (.bool s) (.int .i64 a) (.bool true) (.int .i64 b) (.bool false) (.int .i64 0))
 go_enter Tryz.func137, Tryz.ntmps137
 go_wp2_with fail
 refine (HM.o _).mono ?_;rintro xe w1 ⟨rfl, he1⟩;have F1 := hid (F0.o.ext he1);have X1 := hid (((((Ext.refl w).alloc _).alloc _).alloc _).trans he1);clear he1;obtain ⟨c0, c1, c2, c3, c4, c5⟩ := F1.o.cells;obtain ⟨f0, f1, f2, f3, f4, f5⟩ := F1.o.marks
 go_wp2_with fail
 clear c0 c1 c2 c3 c4 c5 f0 f1 f2 f3 f4 f5;refine (HN.o _).mono ?_;rintro xe w2 ⟨rfl, he2⟩;have F2 := hid (F1.o.ext he2);have X2 := hid (X1.o.trans he2);clear he2;obtain ⟨c0, c1, c2, c3, c4, c5⟩ := F2.o.cells;obtain ⟨f0, f1, f2, f3, f4, f5⟩ := F2.o.marks
 go_wp2_with fail
 clear c0 c1 c2 c3 c4 c5 f0 f1 f2 f3 f4 f5;refine (HN.o _).mono ?_;rintro xe w3 ⟨rfl, he3⟩;have F3 := hid (F2.o.ext he3);have X3 := hid (X2.o.trans he3);clear he3;obtain ⟨c0, c1, c2, c3, c4, c5⟩ := F3.o.cells;obtain ⟨f0, f1, f2, f3, f4, f5⟩ := F3.o.marks
 go_wp2
 have ho := F3.o.o;exact bodyPost_ret (v := .tuple #[.agg #[.bool true, .int .i64 b], .int .i64 0]) (by simp [results, Tryz.results137, go_sem, c0, c1, c2, c3, c4, c5, f0, f1, f2, f3, f4, f5, ho]) rfl ⟨rfl, Ext.setCell (Ext.setCell X3.o (by show w.heap.size <= w.heap.size + 1 + 1; omega) _) (by show w.heap.size <= w.heap.size + 1 + 1; omega) _⟩
theorem b4H (x : W) (b : Int) (w : World) (hx : okW x = true) (hy : okW (false, b) = true) (q : Bool) (hq : okW (x.1, x.2 + b) = q) : Calls Tryz.prog 137 #[wV x, wV (false, b)] w fun e w' => e = .returned (.tuple #[wV (if q = true then (x.1, x.2 + b) else (false, 0)), if q = true then .int .i64 0 else .int .i64 1]) ∧ Ext w w' := by
 have HD := hid (fun w => a1E (x.1, x.2 + b) w)
 rw [hq] at HD;clear hq;have HM := hid (fun w => a1E x w)
 have HN := hid (fun w => a1E (false, b) w)
 have hbx := a2G hx;have hby := a2G hy;rw [hx] at HM;rw [hy] at HN;obtain ⟨s, a⟩ := x;clear hx hy;dsimp only at hbx hby;obtain ⟨ha1, ha2⟩ := hbx;obtain ⟨hb1, hb2⟩ := hby;dsimp only at HD ⊢;have F0 := hid (F3.new w 107 107 107 (.bool s) (.int .i64 a) (.bool false) (.int .i64 b) (.bool false) (.int .i64 0))
 cases q with
 | true =>
  simp only [if_true, if_false, Bool.false_eq_true] at *
  go_enter Tryz.func137, Tryz.ntmps137
  go_wp2_with fail
  refine (HM.o _).mono ?_;rintro xe w1 ⟨rfl, he1⟩;have F1 := hid (F0.o.ext he1);have X1 := hid (((((Ext.refl w).alloc _).alloc _).alloc _).trans he1);clear he1;obtain ⟨c0, c1, c2, c3, c4, c5⟩ := F1.o.cells;obtain ⟨f0, f1, f2, f3, f4, f5⟩ := F1.o.marks
  go_wp2_with fail
  clear c0 c1 c2 c3 c4 c5 f0 f1 f2 f3 f4 f5;refine (HN.o _).mono ?_;rintro xe w2 ⟨rfl, he2⟩;have F2 := hid (F1.o.ext he2);have X2 := hid (X1.o.trans he2);clear he2;obtain ⟨c0, c1, c2, c3, c4, c5⟩ := F2.o.cells;obtain ⟨f0, f1, f2, f3, f4, f5⟩ := F2.o.marks;have tw := fun z u => ((F2.o.b0k z).a2H u).cells.2.2.1
  have tv := fun z u => ((F2.o.b0k z).a2H u).cells.2.2.2.1
  go_wp2_with fail
  clear c0 c1 c2 c3 c4 c5 f0 f1 f2 f3 f4 f5 tw tv;refine (HD.o _).mono ?_;rintro xe w3 ⟨rfl, he3⟩;have F3 := hid (((F2.o.b0k (.bool s)).a2H (.int .i64 (a + b))).ext he3);have X3 := hid (((X2.o.setCell (p := ⟨w.heap.size + 1, 0, none⟩) (by show w.heap.size <= w.heap.size + 1; omega) (.bool s)).setCell (p := ⟨w.heap.size + 1, 1, none⟩) (by show w.heap.size <= w.heap.size + 1; omega) (.int .i64 (a + b))).trans he3)
  clear he3;obtain ⟨c0, c1, c2, c3, c4, c5⟩ := F3.o.cells;obtain ⟨f0, f1, f2, f3, f4, f5⟩ := F3.o.marks
  go_wp2
  have ho := F3.o.o;exact bodyPost_ret (v := .tuple #[.agg #[.bool s, .int .i64 (a + b)], .int .i64 0]) (by simp [results, Tryz.results137, go_sem, c0, c1, c2, c3, c4, c5, f0, f1, f2, f3, f4, f5, ho]) rfl ⟨rfl, Ext.setCell (Ext.setCell X3.o (by show w.heap.size <= w.heap.size + 1 + 1; omega) _) (by show w.heap.size <= w.heap.size + 1 + 1; omega) _⟩
 | false =>
 simp only [if_true, if_false, Bool.false_eq_true] at *
 go_enter Tryz.func137, Tryz.ntmps137
 go_wp2_with fail
 refine (HM.o _).mono ?_;rintro xe w1 ⟨rfl, he1⟩;have F1 := hid (F0.o.ext he1);have X1 := hid (((((Ext.refl w).alloc _).alloc _).alloc _).trans he1);clear he1;obtain ⟨c0, c1, c2, c3, c4, c5⟩ := F1.o.cells;obtain ⟨f0, f1, f2, f3, f4, f5⟩ := F1.o.marks
 go_wp2_with fail
 clear c0 c1 c2 c3 c4 c5 f0 f1 f2 f3 f4 f5;refine (HN.o _).mono ?_;rintro xe w2 ⟨rfl, he2⟩;have F2 := hid (F1.o.ext he2);have X2 := hid (X1.o.trans he2);clear he2;obtain ⟨c0, c1, c2, c3, c4, c5⟩ := F2.o.cells;obtain ⟨f0, f1, f2, f3, f4, f5⟩ := F2.o.marks;have tw := fun z u => ((F2.o.b0k z).a2H u).cells.2.2.1
 have tv := fun z u => ((F2.o.b0k z).a2H u).cells.2.2.2.1
 go_wp2_with fail
 clear c0 c1 c2 c3 c4 c5 f0 f1 f2 f3 f4 f5 tw tv;refine (HD.o _).mono ?_;rintro xe w3 ⟨rfl, he3⟩;have F3 := hid (((F2.o.b0k (.bool s)).a2H (.int .i64 (a + b))).ext he3);have X3 := hid (((X2.o.setCell (p := ⟨w.heap.size + 1, 0, none⟩) (by show w.heap.size <= w.heap.size + 1; omega) (.bool s)).setCell (p := ⟨w.heap.size + 1, 1, none⟩) (by show w.heap.size <= w.heap.size + 1; omega) (.int .i64 (a + b))).trans he3)
 clear he3;obtain ⟨c0, c1, c2, c3, c4, c5⟩ := F3.o.cells;obtain ⟨f0, f1, f2, f3, f4, f5⟩ := F3.o.marks
 go_wp2
 have ho := F3.o.o;exact bodyPost_ret (v := .tuple #[.agg #[.bool false, .int .i64 0], .int .i64 1]) (by simp [results, Tryz.results137, go_sem, c0, c1, c2, c3, c4, c5, f0, f1, f2, f3, f4, f5, ho]) rfl ⟨rfl, Ext.setCell (Ext.setCell X3.o (by show w.heap.size <= w.heap.size + 1 + 1; omega) _) (by show w.heap.size <= w.heap.size + 1 + 1; omega) _⟩
theorem b10 (x y : W) (w : World) (hx : okW x = false) : Calls Tryz.prog 88 #[wV x, wV y] w fun e w' => e = .returned (.tuple #[wV (false, 0), .bool false]) ∧ Ext w w' := by
 have HM := hid (fun w => a0U x w)
 rw [hx] at HM;obtain ⟨s, a⟩ := x;obtain ⟨t, b⟩ := y;clear hx;have F0 := hid (F3.new w 107 107 107 (.bool s) (.int .i64 a) (.bool t) (.int .i64 b) (.bool false) (.int .i64 0))
 go_enter Tryz.func88, Tryz.ntmps88
 go_wp2_with fail
 refine (HM.o _).mono ?_;rintro xe w1 ⟨rfl, he1⟩;have F1 := hid (F0.o.ext he1);have X1 := hid (((((Ext.refl w).alloc _).alloc _).alloc _).trans he1);clear he1;obtain ⟨c0, c1, c2, c3, c4, c5⟩ := F1.o.cells;obtain ⟨f0, f1, f2, f3, f4, f5⟩ := F1.o.marks
 go_wp2
 have ho := F1.o.o;exact bodyPost_ret (v := .tuple #[.agg #[.bool false, .int .i64 0], .bool false]) (by simp [results, Tryz.results88, go_sem, c0, c1, c2, c3, c4, c5, f0, f1, f2, f3, f4, f5, ho]) rfl ⟨rfl, Ext.setCell (Ext.setCell X1.o (by show w.heap.size <= w.heap.size + 1 + 1; omega) _) (by show w.heap.size <= w.heap.size + 1 + 1; omega) _⟩
theorem b11 (x y : W) (w : World) (hx : okW x = true) (hy : okW y = false) : Calls Tryz.prog 88 #[wV x, wV y] w fun e w' => e = .returned (.tuple #[wV (false, 0), .bool false]) ∧ Ext w w' := by
 have HM := hid (fun w => a0U x w)
 have HN := hid (fun w => a0U y w)
 rw [hx] at HM;rw [hy] at HN;obtain ⟨s, a⟩ := x;obtain ⟨t, b⟩ := y;clear hx hy;have F0 := hid (F3.new w 107 107 107 (.bool s) (.int .i64 a) (.bool t) (.int .i64 b) (.bool false) (.int .i64 0))
 go_enter Tryz.func88, Tryz.ntmps88
 go_wp2_with fail
 refine (HM.o _).mono ?_;rintro xe w1 ⟨rfl, he1⟩;have F1 := hid (F0.o.ext he1);have X1 := hid (((((Ext.refl w).alloc _).alloc _).alloc _).trans he1);clear he1;obtain ⟨c0, c1, c2, c3, c4, c5⟩ := F1.o.cells;obtain ⟨f0, f1, f2, f3, f4, f5⟩ := F1.o.marks
 go_wp2_with fail
 clear c0 c1 c2 c3 c4 c5 f0 f1 f2 f3 f4 f5;refine (HN.o _).mono ?_;rintro xe w2 ⟨rfl, he2⟩;have F2 := hid (F1.o.ext he2);have X2 := hid (X1.o.trans he2);clear he2;obtain ⟨c0, c1, c2, c3, c4, c5⟩ := F2.o.cells;obtain ⟨f0, f1, f2, f3, f4, f5⟩ := F2.o.marks
 go_wp2
 have ho := F2.o.o;exact bodyPost_ret (v := .tuple #[.agg #[.bool false, .int .i64 0], .bool false]) (by simp [results, Tryz.results88, go_sem, c0, c1, c2, c3, c4, c5, f0, f1, f2, f3, f4, f5, ho]) rfl ⟨rfl, Ext.setCell (Ext.setCell X2.o (by show w.heap.size <= w.heap.size + 1 + 1; omega) _) (by show w.heap.size <= w.heap.size + 1 + 1; omega) _⟩
theorem b2P (x : W) (b : Int) (w : World) (hx : okW x = true) (hy : okW (true, b) = true) : Calls Tryz.prog 88 #[wV x, wV (true, b)] w fun e w' => e = .returned (.tuple #[wV (true, b), .bool true]) ∧ Ext w w' := by
 have HM := hid (fun w => a0U x w)
 have HN := hid (fun w => a0U (true, b) w)
 have hbx := a2G hx;have hby := a2G hy;rw [hx] at HM;rw [hy] at HN;obtain ⟨s, a⟩ := x;clear hx hy;dsimp only at hbx hby;obtain ⟨ha1, ha2⟩ := hbx;obtain ⟨hb1, hb2⟩ := hby;have F0 := hid (F3.new w 107 107 107 (.bool s) (.int .i64 a) (.bool true) (.int .i64 b) (.bool false) (.int .i64 0))
 go_enter Tryz.func88, Tryz.ntmps88
 go_wp2_with fail
 refine (HM.o _).mono ?_;rintro xe w1 ⟨rfl, he1⟩;have F1 := hid (F0.o.ext he1);have X1 := hid (((((Ext.refl w).alloc _).alloc _).alloc _).trans he1);clear he1;obtain ⟨c0, c1, c2, c3, c4, c5⟩ := F1.o.cells;obtain ⟨f0, f1, f2, f3, f4, f5⟩ := F1.o.marks
 go_wp2_with fail
 clear c0 c1 c2 c3 c4 c5 f0 f1 f2 f3 f4 f5;refine (HN.o _).mono ?_;rintro xe w2 ⟨rfl, he2⟩;have F2 := hid (F1.o.ext he2);have X2 := hid (X1.o.trans he2);clear he2;obtain ⟨c0, c1, c2, c3, c4, c5⟩ := F2.o.cells;obtain ⟨f0, f1, f2, f3, f4, f5⟩ := F2.o.marks
 go_wp2
 have ho := F2.o.o;exact bodyPost_ret (v := .tuple #[.agg #[.bool true, .int .i64 b], .bool true]) (by simp [results, Tryz.results88, go_sem, c0, c1, c2, c3, c4, c5, f0, f1, f2, f3, f4, f5, ho]) rfl ⟨rfl, Ext.setCell (Ext.setCell X2.o (by show w.heap.size <= w.heap.size + 1 + 1; omega) _) (by show w.heap.size <= w.heap.size + 1 + 1; omega) _⟩
theorem b2Q (x : W) (b : Int) (w : World) (hx : okW x = true) (hy : okW (false, b) = true) (q : Bool) (hq : okW (x.1, x.2 + b) = q) : Calls Tryz.prog 88 #[wV x, wV (false, b)] w fun e w' => e = .returned (.tuple #[wV (if q = true then (x.1, x.2 + b) else (false, 0)), if q = true then .bool true else .bool false]) ∧ Ext w w' := by
 have HD := hid (fun w => a0U (x.1, x.2 + b) w)
 rw [hq] at HD;clear hq;have HM := hid (fun w => a0U x w)
 have HN := hid (fun w => a0U (false, b) w)
 have hbx := a2G hx;have hby := a2G hy;rw [hx] at HM;rw [hy] at HN;obtain ⟨s, a⟩ := x;clear hx hy;dsimp only at hbx hby;obtain ⟨ha1, ha2⟩ := hbx;obtain ⟨hb1, hb2⟩ := hby;dsimp only at HD ⊢;have F0 := hid (F3.new w 107 107 107 (.bool s) (.int .i64 a) (.bool false) (.int .i64 b) (.bool false) (.int .i64 0))
 cases q with
 | true =>
  simp only [if_true, if_false, Bool.false_eq_true] at *
  go_enter Tryz.func88, Tryz.ntmps88
  go_wp2_with fail
  refine (HM.o _).mono ?_;rintro xe w1 ⟨rfl, he1⟩;have F1 := hid (F0.o.ext he1);have X1 := hid (((((Ext.refl w).alloc _).alloc _).alloc _).trans he1);clear he1;obtain ⟨c0, c1, c2, c3, c4, c5⟩ := F1.o.cells;obtain ⟨f0, f1, f2, f3, f4, f5⟩ := F1.o.marks
  go_wp2_with fail
  clear c0 c1 c2 c3 c4 c5 f0 f1 f2 f3 f4 f5;refine (HN.o _).mono ?_;rintro xe w2 ⟨rfl, he2⟩;have F2 := hid (F1.o.ext he2);have X2 := hid (X1.o.trans he2);clear he2;obtain ⟨c0, c1, c2, c3, c4, c5⟩ := F2.o.cells;obtain ⟨f0, f1, f2, f3, f4, f5⟩ := F2.o.marks;have tw := fun z => (F2.o.b0j z).cells.1
  have tv := fun z => (F2.o.b0j z).cells.2.1
  go_wp2_with fail
  clear c0 c1 c2 c3 c4 c5 f0 f1 f2 f3 f4 f5 tw tv;refine (HD.o _).mono ?_;rintro xe w3 ⟨rfl, he3⟩;have F3 := hid ((F2.o.b0j (.int .i64 (a + b))).ext he3);have X3 := hid ((X2.o.setCell (p := ⟨w.heap.size, 1, none⟩) (by show w.heap.size <= w.heap.size; omega) (.int .i64 (a + b))).trans he3)
  clear he3;obtain ⟨c0, c1, c2, c3, c4, c5⟩ := F3.o.cells;obtain ⟨f0, f1, f2, f3, f4, f5⟩ := F3.o.marks
  go_wp2
  have ho := F3.o.o;exact bodyPost_ret (v := .tuple #[.agg #[.bool s, .int .i64 (a + b)], .bool true]) (by simp [results, Tryz.results88, go_sem, c0, c1, c2, c3, c4, c5, f0, f1, f2, f3, f4, f5, ho]) rfl ⟨rfl, Ext.setCell (Ext.setCell X3.o (by show w.heap.size <= w.heap.size + 1 + 1; omega) _) (by show w.heap.size <= w.heap.size + 1 + 1; omega) _⟩
 | false =>
 simp only [if_true, if_false, Bool.false_eq_true] at *
 go_enter Tryz.func88, Tryz.ntmps88
 go_wp2_with fail
 refine (HM.o _).mono ?_;rintro xe w1 ⟨rfl, he1⟩;have F1 := hid (F0.o.ext he1);have X1 := hid (((((Ext.refl w).alloc _).alloc _).alloc _).trans he1);clear he1;obtain ⟨c0, c1, c2, c3, c4, c5⟩ := F1.o.cells;obtain ⟨f0, f1, f2, f3, f4, f5⟩ := F1.o.marks
 go_wp2_with fail
 clear c0 c1 c2 c3 c4 c5 f0 f1 f2 f3 f4 f5;refine (HN.o _).mono ?_;rintro xe w2 ⟨rfl, he2⟩;have F2 := hid (F1.o.ext he2);have X2 := hid (X1.o.trans he2);clear he2;obtain ⟨c0, c1, c2, c3, c4, c5⟩ := F2.o.cells;obtain ⟨f0, f1, f2, f3, f4, f5⟩ := F2.o.marks;have tw := fun z => (F2.o.b0j z).cells.1
 have tv := fun z => (F2.o.b0j z).cells.2.1
 go_wp2_with fail
 clear c0 c1 c2 c3 c4 c5 f0 f1 f2 f3 f4 f5 tw tv;refine (HD.o _).mono ?_;rintro xe w3 ⟨rfl, he3⟩;have F3 := hid ((F2.o.b0j (.int .i64 (a + b))).ext he3);have X3 := hid ((X2.o.setCell (p := ⟨w.heap.size, 1, none⟩) (by show w.heap.size <= w.heap.size; omega) (.int .i64 (a + b))).trans he3)
 clear he3;obtain ⟨c0, c1, c2, c3, c4, c5⟩ := F3.o.cells;obtain ⟨f0, f1, f2, f3, f4, f5⟩ := F3.o.marks
 go_wp2
 have ho := F3.o.o;exact bodyPost_ret (v := .tuple #[.agg #[.bool false, .int .i64 0], .bool false]) (by simp [results, Tryz.results88, go_sem, c0, c1, c2, c3, c4, c5, f0, f1, f2, f3, f4, f5, ho]) rfl ⟨rfl, Ext.setCell (Ext.setCell X3.o (by show w.heap.size <= w.heap.size + 1 + 1; omega) _) (by show w.heap.size <= w.heap.size + 1 + 1; omega) _⟩
theorem b4I (x y : W) (w : World) : Calls Tryz.prog 137 #[wV x, wV y] w fun e w' => e = .returned (.tuple #[wV (a8h x y).1, .int .i64 (a8h x y).2]) ∧ Ext w w' := by
 unfold a8h
 cases hx : okW x with
 | false => rw [if_pos (.inl rfl)]; exact b2N x y w hx
 | true =>
 cases hy : okW y with
 | false => rw [if_pos (.inr rfl)]; exact b2O x y w hx hy
 | true =>
 rw [if_neg (by simp)]
 unfold b2I;obtain ⟨t, b⟩ := y
 cases t with
 | true => rw [if_pos rfl, hy, if_neg (by simp)]; exact b4G x b w hx hy
 | false =>
 have h := b4H x b w hx hy _ rfl;have e : (if ((false, b) : W).1 = true then ((false, b) : W) else (x.1, x.2 + ((false, b) : W).2)) = (x.1, x.2 + b) := by simp
 rw [e]
 cases hq : okW (x.1, x.2 + b) with
 | true => rw [hq] at h; exact h
 | false => rw [hq] at h; exact h
theorem b2R (x y : W) (w : World) : Calls Tryz.prog 88 #[wV x, wV y] w fun e w' => e = .returned (.tuple #[wV (a8h x y).1, .bool (decide ((a8h x y).2 = 0))]) ∧ Ext w w' := by
 unfold a8h
 cases hx : okW x with
 | false => rw [if_pos (.inl rfl)]; exact b10 x y w hx
 | true =>
 cases hy : okW y with
 | false => rw [if_pos (.inr rfl)]; exact b11 x y w hx hy
 | true =>
 rw [if_neg (by simp)]
 unfold b2I;obtain ⟨t, b⟩ := y
 cases t with
 | true => rw [if_pos rfl, hy, if_neg (by simp)]; exact b2P x b w hx hy
 | false =>
 have h := b2Q x b w hx hy _ rfl;have e : (if ((false, b) : W).1 = true then ((false, b) : W) else (x.1, x.2 + ((false, b) : W).2)) = (x.1, x.2 + b) := by simp
 rw [e]
 cases hq : okW (x.1, x.2 + b) with
 | true => rw [hq] at h; exact h
 | false => rw [hq] at h; exact h
end Go.Proofs.YtdkejfjcchlnpaaGreat.Mo
