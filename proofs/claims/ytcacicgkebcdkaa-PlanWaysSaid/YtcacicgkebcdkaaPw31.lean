/-
  MomThen, packed: what the claim needs of them.
-/
import Derived.Test.YtcacicgkebcdkaaPw30
set_option linter.unusedSimpArgs false
set_option linter.unusedVariables false
set_option maxRecDepth 100000
namespace Go.Proofs.Ytcacicgkebcdkaa.Mo
open Go.RowKit Go.Ox Go.Shelf
set_option maxHeartbeats 1000000 in
theorem rwalk_bad (x : W) (m : Mom.M) (w : World) (hx : okW x = false) : Calls Try.prog 50 #[wV x, mV m] w fun e w' => e = .returned (.tuple #[mV (0, 0), .int .i64 1]) ∧ Ext w w' := by
  have HM := Lib.hid (fun w => rway_any x w)
  rw [hx] at HM
  obtain ⟨s, a⟩ := x
  obtain ⟨x, y⟩ := m
  clear hx
  have F0 := Lib.hid (F3.new w 37 48 48 (.bool s) (.int .i64 a) (.int .i64 x) (.int .i64 y) (.int .i64 0) (.int .i64 0))
  go_enter Try.func50, Try.ntmps50
  go_wp2_with fail
  refine (HM.out _).mono ?_
  rintro xe w1 ⟨rfl, he1⟩
  have F1 := Lib.hid (F0.out.ext he1)
  have X1 := Lib.hid (((((Ext.refl w).alloc _).alloc _).alloc _).trans he1)
  clear he1
  obtain ⟨c0, c1, c2, c3, c4, c5⟩ := F1.out.cells
  obtain ⟨f0, f1, f2, f3, f4, f5⟩ := F1.out.marks
  go_wp2
  have ho := F1.out.out
  exact bodyPost_ret (v := .tuple #[.agg #[.int .i64 0, .int .i64 0], .int .i64 1]) (by simp [results, Try.results50, go_sem, c0, c1, c2, c3, c4, c5, f0, f1, f2, f3, f4, f5, ho]) rfl ⟨rfl, Ext.setCell (Ext.setCell X1.out (by show w.heap.size ≤ w.heap.size + 1 + 1; omega) _) (by show w.heap.size ≤ w.heap.size + 1 + 1; omega) _⟩
set_option maxHeartbeats 1000000 in
theorem rwalk_off (x : W) (m : Mom.M) (w : World) (hx : okW x = true) (hm : Mom.ok m = false) : Calls Try.prog 50 #[wV x, mV m] w fun e w' => e = .returned (.tuple #[mV (0, 0), .int .i64 40]) ∧ Ext w w' := by
  have HM := Lib.hid (fun w => rway_any x w)
  have HC := Lib.hid (fun w => rcheck_any m w)
  rw [hx] at HM
  rw [hm] at HC
  obtain ⟨s, a⟩ := x
  obtain ⟨x, y⟩ := m
  clear hx hm
  have F0 := Lib.hid (F3.new w 37 48 48 (.bool s) (.int .i64 a) (.int .i64 x) (.int .i64 y) (.int .i64 0) (.int .i64 0))
  go_enter Try.func50, Try.ntmps50
  go_wp2_with fail
  refine (HM.out _).mono ?_
  rintro xe w1 ⟨rfl, he1⟩
  have F1 := Lib.hid (F0.out.ext he1)
  have X1 := Lib.hid (((((Ext.refl w).alloc _).alloc _).alloc _).trans he1)
  clear he1
  obtain ⟨c0, c1, c2, c3, c4, c5⟩ := F1.out.cells
  obtain ⟨f0, f1, f2, f3, f4, f5⟩ := F1.out.marks
  go_wp2_with fail
  clear c0 c1 c2 c3 c4 c5 f0 f1 f2 f3 f4 f5
  refine (HC.out _).mono ?_
  rintro xe w2 ⟨rfl, he2⟩
  have F2 := Lib.hid (F1.out.ext he2)
  have X2 := Lib.hid (X1.out.trans he2)
  clear he2
  obtain ⟨c0, c1, c2, c3, c4, c5⟩ := F2.out.cells
  obtain ⟨f0, f1, f2, f3, f4, f5⟩ := F2.out.marks
  go_wp2
  have ho := F2.out.out
  exact bodyPost_ret (v := .tuple #[.agg #[.int .i64 0, .int .i64 0], .int .i64 40]) (by simp [results, Try.results50, go_sem, c0, c1, c2, c3, c4, c5, f0, f1, f2, f3, f4, f5, ho]) rfl ⟨rfl, Ext.setCell (Ext.setCell X2.out (by show w.heap.size ≤ w.heap.size + 1 + 1; omega) _) (by show w.heap.size ≤ w.heap.size + 1 + 1; omega) _⟩
set_option maxHeartbeats 1000000 in
theorem rwalk_true (a : Int) (m : Mom.M) (w : World) (hx : okW (true, a) = true) (hm : Mom.ok m = true) (q : Bool) (hq : Mom.ok (stepM (true, a) m) = q) : Calls Try.prog 50 #[wV (true, a), mV m] w fun e w' => e = .returned (.tuple #[mV (if q = true then stepM (true, a) m else (0, 0)), .int .i64 (if q = true then 0 else 40)]) ∧ Ext w w' := by
  have HM := Lib.hid (fun w => rway_any (true, a) w)
  have HC := Lib.hid (fun w => rcheck_any m w)
  have HD := Lib.hid (fun w => rcheck_any (stepM (true, a) m) w)
  have hb1 := okW_bd hx
  have hb2 := ok_bd hm
  rw [hx] at HM
  rw [hm] at HC
  rw [hq] at HD
  obtain ⟨x, y⟩ := m
  clear hx hm hq
  unfold stepM at *
  simp only [if_true, if_false, Bool.false_eq_true, Int.zero_add] at *
  obtain ⟨ha1, ha2⟩ := hb1
  obtain ⟨hx1, hx2, hy1, hy2⟩ := hb2
  have F0 := Lib.hid (F3.new w 37 48 48 (.bool true) (.int .i64 a) (.int .i64 x) (.int .i64 y) (.int .i64 0) (.int .i64 0))
  cases q with
  | true =>
    simp only [if_true, if_false, Bool.false_eq_true] at *
    go_enter Try.func50, Try.ntmps50
    go_wp2_with fail
    refine (HM.out _).mono ?_
    rintro xe w1 ⟨rfl, he1⟩
    have F1 := Lib.hid (F0.out.ext he1)
    have X1 := Lib.hid (((((Ext.refl w).alloc _).alloc _).alloc _).trans he1)
    clear he1
    obtain ⟨c0, c1, c2, c3, c4, c5⟩ := F1.out.cells
    obtain ⟨f0, f1, f2, f3, f4, f5⟩ := F1.out.marks
    go_wp2_with fail
    clear c0 c1 c2 c3 c4 c5 f0 f1 f2 f3 f4 f5
    refine (HC.out _).mono ?_
    rintro xe w2 ⟨rfl, he2⟩
    have F2 := Lib.hid (F1.out.ext he2)
    have X2 := Lib.hid (X1.out.trans he2)
    clear he2
    obtain ⟨c0, c1, c2, c3, c4, c5⟩ := F2.out.cells
    obtain ⟨f0, f1, f2, f3, f4, f5⟩ := F2.out.marks
    have tw := fun z => (F2.out.set11 z).cells.2.2.2.1
    have tv := fun z => (F2.out.set11 z).cells.2.2.1
    go_wp2_with fail
    clear c0 c1 c2 c3 c4 c5 f0 f1 f2 f3 f4 f5 tw tv
    refine (HD.out _).mono ?_
    rintro xe w3 ⟨rfl, he3⟩
    have F3 := Lib.hid ((F2.out.set11 (.int .i64 a)).ext he3)
    have X3 := Lib.hid ((X2.out.setCell (p := ⟨w.heap.size + 1, 1, none⟩) (by show w.heap.size ≤ w.heap.size + 1; omega) (.int .i64 a)).trans he3)
    clear he3
    obtain ⟨c0, c1, c2, c3, c4, c5⟩ := F3.out.cells
    obtain ⟨f0, f1, f2, f3, f4, f5⟩ := F3.out.marks
    go_wp2
    have ho := F3.out.out
    exact bodyPost_ret (v := .tuple #[.agg #[.int .i64 x, .int .i64 a], .int .i64 0]) (by simp [results, Try.results50, go_sem, c0, c1, c2, c3, c4, c5, f0, f1, f2, f3, f4, f5, ho]) rfl ⟨rfl, Ext.setCell (Ext.setCell X3.out (by show w.heap.size ≤ w.heap.size + 1 + 1; omega) _) (by show w.heap.size ≤ w.heap.size + 1 + 1; omega) _⟩
  | false =>
    simp only [if_true, if_false, Bool.false_eq_true] at *
    go_enter Try.func50, Try.ntmps50
    go_wp2_with fail
    refine (HM.out _).mono ?_
    rintro xe w1 ⟨rfl, he1⟩
    have F1 := Lib.hid (F0.out.ext he1)
    have X1 := Lib.hid (((((Ext.refl w).alloc _).alloc _).alloc _).trans he1)
    clear he1
    obtain ⟨c0, c1, c2, c3, c4, c5⟩ := F1.out.cells
    obtain ⟨f0, f1, f2, f3, f4, f5⟩ := F1.out.marks
    go_wp2_with fail
    clear c0 c1 c2 c3 c4 c5 f0 f1 f2 f3 f4 f5
    refine (HC.out _).mono ?_
    rintro xe w2 ⟨rfl, he2⟩
    have F2 := Lib.hid (F1.out.ext he2)
    have X2 := Lib.hid (X1.out.trans he2)
    clear he2
    obtain ⟨c0, c1, c2, c3, c4, c5⟩ := F2.out.cells
    obtain ⟨f0, f1, f2, f3, f4, f5⟩ := F2.out.marks
    have tw := fun z => (F2.out.set11 z).cells.2.2.2.1
    have tv := fun z => (F2.out.set11 z).cells.2.2.1
    go_wp2_with fail
    clear c0 c1 c2 c3 c4 c5 f0 f1 f2 f3 f4 f5 tw tv
    refine (HD.out _).mono ?_
    rintro xe w3 ⟨rfl, he3⟩
    have F3 := Lib.hid ((F2.out.set11 (.int .i64 a)).ext he3)
    have X3 := Lib.hid ((X2.out.setCell (p := ⟨w.heap.size + 1, 1, none⟩) (by show w.heap.size ≤ w.heap.size + 1; omega) (.int .i64 a)).trans he3)
    clear he3
    obtain ⟨c0, c1, c2, c3, c4, c5⟩ := F3.out.cells
    obtain ⟨f0, f1, f2, f3, f4, f5⟩ := F3.out.marks
    go_wp2
    have ho := F3.out.out
    exact bodyPost_ret (v := .tuple #[.agg #[.int .i64 0, .int .i64 0], .int .i64 40]) (by simp [results, Try.results50, go_sem, c0, c1, c2, c3, c4, c5, f0, f1, f2, f3, f4, f5, ho]) rfl ⟨rfl, Ext.setCell (Ext.setCell X3.out (by show w.heap.size ≤ w.heap.size + 1 + 1; omega) _) (by show w.heap.size ≤ w.heap.size + 1 + 1; omega) _⟩
set_option maxHeartbeats 1000000 in
theorem rwalk_false (a : Int) (m : Mom.M) (w : World) (hx : okW (false, a) = true) (hm : Mom.ok m = true) (q : Bool) (hq : Mom.ok (stepM (false, a) m) = q) : Calls Try.prog 50 #[wV (false, a), mV m] w fun e w' => e = .returned (.tuple #[mV (if q = true then stepM (false, a) m else (0, 0)), .int .i64 (if q = true then 0 else 40)]) ∧ Ext w w' := by
  have HM := Lib.hid (fun w => rway_any (false, a) w)
  have HC := Lib.hid (fun w => rcheck_any m w)
  have HD := Lib.hid (fun w => rcheck_any (stepM (false, a) m) w)
  have hb1 := okW_bd hx
  have hb2 := ok_bd hm
  rw [hx] at HM
  rw [hm] at HC
  rw [hq] at HD
  obtain ⟨x, y⟩ := m
  clear hx hm hq
  unfold stepM at *
  simp only [if_true, if_false, Bool.false_eq_true, Int.zero_add] at *
  obtain ⟨ha1, ha2⟩ := hb1
  obtain ⟨hx1, hx2, hy1, hy2⟩ := hb2
  have F0 := Lib.hid (F3.new w 37 48 48 (.bool false) (.int .i64 a) (.int .i64 x) (.int .i64 y) (.int .i64 0) (.int .i64 0))
  cases q with
  | true =>
    simp only [if_true, if_false, Bool.false_eq_true] at *
    go_enter Try.func50, Try.ntmps50
    go_wp2_with fail
    refine (HM.out _).mono ?_
    rintro xe w1 ⟨rfl, he1⟩
    have F1 := Lib.hid (F0.out.ext he1)
    have X1 := Lib.hid (((((Ext.refl w).alloc _).alloc _).alloc _).trans he1)
    clear he1
    obtain ⟨c0, c1, c2, c3, c4, c5⟩ := F1.out.cells
    obtain ⟨f0, f1, f2, f3, f4, f5⟩ := F1.out.marks
    go_wp2_with fail
    clear c0 c1 c2 c3 c4 c5 f0 f1 f2 f3 f4 f5
    refine (HC.out _).mono ?_
    rintro xe w2 ⟨rfl, he2⟩
    have F2 := Lib.hid (F1.out.ext he2)
    have X2 := Lib.hid (X1.out.trans he2)
    clear he2
    obtain ⟨c0, c1, c2, c3, c4, c5⟩ := F2.out.cells
    obtain ⟨f0, f1, f2, f3, f4, f5⟩ := F2.out.marks
    have tw := fun z => (F2.out.set11 z).cells.2.2.2.1
    have tv := fun z => (F2.out.set11 z).cells.2.2.1
    go_wp2_with fail
    clear c0 c1 c2 c3 c4 c5 f0 f1 f2 f3 f4 f5 tw tv
    refine (HD.out _).mono ?_
    rintro xe w3 ⟨rfl, he3⟩
    have F3 := Lib.hid ((F2.out.set11 (.int .i64 (y + a))).ext he3)
    have X3 := Lib.hid ((X2.out.setCell (p := ⟨w.heap.size + 1, 1, none⟩) (by show w.heap.size ≤ w.heap.size + 1; omega) (.int .i64 (y + a))).trans he3)
    clear he3
    obtain ⟨c0, c1, c2, c3, c4, c5⟩ := F3.out.cells
    obtain ⟨f0, f1, f2, f3, f4, f5⟩ := F3.out.marks
    go_wp2
    have ho := F3.out.out
    exact bodyPost_ret (v := .tuple #[.agg #[.int .i64 x, .int .i64 (y + a)], .int .i64 0]) (by simp [results, Try.results50, go_sem, c0, c1, c2, c3, c4, c5, f0, f1, f2, f3, f4, f5, ho]) rfl ⟨rfl, Ext.setCell (Ext.setCell X3.out (by show w.heap.size ≤ w.heap.size + 1 + 1; omega) _) (by show w.heap.size ≤ w.heap.size + 1 + 1; omega) _⟩
  | false =>
    simp only [if_true, if_false, Bool.false_eq_true] at *
    go_enter Try.func50, Try.ntmps50
    go_wp2_with fail
    refine (HM.out _).mono ?_
    rintro xe w1 ⟨rfl, he1⟩
    have F1 := Lib.hid (F0.out.ext he1)
    have X1 := Lib.hid (((((Ext.refl w).alloc _).alloc _).alloc _).trans he1)
    clear he1
    obtain ⟨c0, c1, c2, c3, c4, c5⟩ := F1.out.cells
    obtain ⟨f0, f1, f2, f3, f4, f5⟩ := F1.out.marks
    go_wp2_with fail
    clear c0 c1 c2 c3 c4 c5 f0 f1 f2 f3 f4 f5
    refine (HC.out _).mono ?_
    rintro xe w2 ⟨rfl, he2⟩
    have F2 := Lib.hid (F1.out.ext he2)
    have X2 := Lib.hid (X1.out.trans he2)
    clear he2
    obtain ⟨c0, c1, c2, c3, c4, c5⟩ := F2.out.cells
    obtain ⟨f0, f1, f2, f3, f4, f5⟩ := F2.out.marks
    have tw := fun z => (F2.out.set11 z).cells.2.2.2.1
    have tv := fun z => (F2.out.set11 z).cells.2.2.1
    go_wp2_with fail
    clear c0 c1 c2 c3 c4 c5 f0 f1 f2 f3 f4 f5 tw tv
    refine (HD.out _).mono ?_
    rintro xe w3 ⟨rfl, he3⟩
    have F3 := Lib.hid ((F2.out.set11 (.int .i64 (y + a))).ext he3)
    have X3 := Lib.hid ((X2.out.setCell (p := ⟨w.heap.size + 1, 1, none⟩) (by show w.heap.size ≤ w.heap.size + 1; omega) (.int .i64 (y + a))).trans he3)
    clear he3
    obtain ⟨c0, c1, c2, c3, c4, c5⟩ := F3.out.cells
    obtain ⟨f0, f1, f2, f3, f4, f5⟩ := F3.out.marks
    go_wp2
    have ho := F3.out.out
    exact bodyPost_ret (v := .tuple #[.agg #[.int .i64 0, .int .i64 0], .int .i64 40]) (by simp [results, Try.results50, go_sem, c0, c1, c2, c3, c4, c5, f0, f1, f2, f3, f4, f5, ho]) rfl ⟨rfl, Ext.setCell (Ext.setCell X3.out (by show w.heap.size ≤ w.heap.size + 1 + 1; omega) _) (by show w.heap.size ≤ w.heap.size + 1 + 1; omega) _⟩
theorem rwalk_any (x : W) (m : Mom.M) (w : World) : Calls Try.prog 50 #[wV x, mV m] w fun e w' => e = .returned (.tuple #[mV (walkM x m).1, .int .i64 (walkM x m).2]) ∧ Ext w w' := by
  unfold walkM
  cases hx : okW x with
  | false => exact rwalk_bad x m w hx
  | true =>
    rw [if_neg (by simp)]
    cases hm : Mom.ok m with
    | false => exact rwalk_off x m w hx hm
    | true =>
      rw [if_neg (by simp)]
      obtain ⟨s, a⟩ := x
      cases s with
      | true =>
        have h := rwalk_true a m w hx hm _ rfl
        cases hq : Mom.ok (stepM (true, a) m) with
        | true => rw [hq] at h; exact h
        | false => rw [hq] at h; exact h
      | false =>
        have h := rwalk_false a m w hx hm _ rfl
        cases hq : Mom.ok (stepM (false, a) m) with
        | true => rw [hq] at h; exact h
        | false => rw [hq] at h; exact h
set_option maxHeartbeats 1000000 in
theorem then_bad1 (x y : W) (w : World) (hx : okW x = false) : Calls Try.prog 69 #[wV x, wV y] w fun e w' => e = .returned (.tuple #[wV (false, 0), .int .i64 1]) ∧ Ext w w' := by
  have HM := Lib.hid (fun w => may_any x w)
  rw [hx] at HM
  obtain ⟨s, a⟩ := x
  obtain ⟨t, b⟩ := y
  clear hx
  have F0 := Lib.hid (F3.new w 37 37 37 (.bool s) (.int .i64 a) (.bool t) (.int .i64 b) (.bool false) (.int .i64 0))
  go_enter Try.func69, Try.ntmps69
  go_wp2_with fail
  refine (HM.out _).mono ?_
  rintro xe w1 ⟨rfl, he1⟩
  have F1 := Lib.hid (F0.out.ext he1)
  have X1 := Lib.hid (((((Ext.refl w).alloc _).alloc _).alloc _).trans he1)
  clear he1
  obtain ⟨c0, c1, c2, c3, c4, c5⟩ := F1.out.cells
  obtain ⟨f0, f1, f2, f3, f4, f5⟩ := F1.out.marks
  go_wp2
  have ho := F1.out.out
  exact bodyPost_ret (v := .tuple #[.agg #[.bool false, .int .i64 0], .int .i64 1]) (by simp [results, Try.results69, go_sem, c0, c1, c2, c3, c4, c5, f0, f1, f2, f3, f4, f5, ho]) rfl ⟨rfl, Ext.setCell (Ext.setCell X1.out (by show w.heap.size ≤ w.heap.size + 1 + 1; omega) _) (by show w.heap.size ≤ w.heap.size + 1 + 1; omega) _⟩
set_option maxHeartbeats 1000000 in
theorem then_bad2 (x y : W) (w : World) (hx : okW x = true) (hy : okW y = false) : Calls Try.prog 69 #[wV x, wV y] w fun e w' => e = .returned (.tuple #[wV (false, 0), .int .i64 1]) ∧ Ext w w' := by
  have HM := Lib.hid (fun w => may_any x w)
  have HN := Lib.hid (fun w => may_any y w)
  rw [hx] at HM
  rw [hy] at HN
  obtain ⟨s, a⟩ := x
  obtain ⟨t, b⟩ := y
  clear hx hy
  have F0 := Lib.hid (F3.new w 37 37 37 (.bool s) (.int .i64 a) (.bool t) (.int .i64 b) (.bool false) (.int .i64 0))
  go_enter Try.func69, Try.ntmps69
  go_wp2_with fail
  refine (HM.out _).mono ?_
  rintro xe w1 ⟨rfl, he1⟩
  have F1 := Lib.hid (F0.out.ext he1)
  have X1 := Lib.hid (((((Ext.refl w).alloc _).alloc _).alloc _).trans he1)
  clear he1
  obtain ⟨c0, c1, c2, c3, c4, c5⟩ := F1.out.cells
  obtain ⟨f0, f1, f2, f3, f4, f5⟩ := F1.out.marks
  go_wp2_with fail
  clear c0 c1 c2 c3 c4 c5 f0 f1 f2 f3 f4 f5
  refine (HN.out _).mono ?_
  rintro xe w2 ⟨rfl, he2⟩
  have F2 := Lib.hid (F1.out.ext he2)
  have X2 := Lib.hid (X1.out.trans he2)
  clear he2
  obtain ⟨c0, c1, c2, c3, c4, c5⟩ := F2.out.cells
  obtain ⟨f0, f1, f2, f3, f4, f5⟩ := F2.out.marks
  go_wp2
  have ho := F2.out.out
  exact bodyPost_ret (v := .tuple #[.agg #[.bool false, .int .i64 0], .int .i64 1]) (by simp [results, Try.results69, go_sem, c0, c1, c2, c3, c4, c5, f0, f1, f2, f3, f4, f5, ho]) rfl ⟨rfl, Ext.setCell (Ext.setCell X2.out (by show w.heap.size ≤ w.heap.size + 1 + 1; omega) _) (by show w.heap.size ≤ w.heap.size + 1 + 1; omega) _⟩
set_option maxHeartbeats 1000000 in
theorem then_set (x : W) (b : Int) (w : World) (hx : okW x = true) (hy : okW (true, b) = true) : Calls Try.prog 69 #[wV x, wV (true, b)] w fun e w' => e = .returned (.tuple #[wV (true, b), .int .i64 0]) ∧ Ext w w' := by
  have HM := Lib.hid (fun w => may_any x w)
  have HN := Lib.hid (fun w => may_any (true, b) w)
  have hbx := okW_bd hx
  have hby := okW_bd hy
  rw [hx] at HM
  rw [hy] at HN
  obtain ⟨s, a⟩ := x
  clear hx hy
  dsimp only at hbx hby
  obtain ⟨ha1, ha2⟩ := hbx
  obtain ⟨hb1, hb2⟩ := hby
  have F0 := Lib.hid (F3.new w 37 37 37 (.bool s) (.int .i64 a) (.bool true) (.int .i64 b) (.bool false) (.int .i64 0))
  go_enter Try.func69, Try.ntmps69
  go_wp2_with fail
  refine (HM.out _).mono ?_
  rintro xe w1 ⟨rfl, he1⟩
  have F1 := Lib.hid (F0.out.ext he1)
  have X1 := Lib.hid (((((Ext.refl w).alloc _).alloc _).alloc _).trans he1)
  clear he1
  obtain ⟨c0, c1, c2, c3, c4, c5⟩ := F1.out.cells
  obtain ⟨f0, f1, f2, f3, f4, f5⟩ := F1.out.marks
  go_wp2_with fail
  clear c0 c1 c2 c3 c4 c5 f0 f1 f2 f3 f4 f5
  refine (HN.out _).mono ?_
  rintro xe w2 ⟨rfl, he2⟩
  have F2 := Lib.hid (F1.out.ext he2)
  have X2 := Lib.hid (X1.out.trans he2)
  clear he2
  obtain ⟨c0, c1, c2, c3, c4, c5⟩ := F2.out.cells
  obtain ⟨f0, f1, f2, f3, f4, f5⟩ := F2.out.marks
  go_wp2_with fail
  clear c0 c1 c2 c3 c4 c5 f0 f1 f2 f3 f4 f5
  refine (HN.out _).mono ?_
  rintro xe w3 ⟨rfl, he3⟩
  have F3 := Lib.hid (F2.out.ext he3)
  have X3 := Lib.hid (X2.out.trans he3)
  clear he3
  obtain ⟨c0, c1, c2, c3, c4, c5⟩ := F3.out.cells
  obtain ⟨f0, f1, f2, f3, f4, f5⟩ := F3.out.marks
  go_wp2
  have ho := F3.out.out
  exact bodyPost_ret (v := .tuple #[.agg #[.bool true, .int .i64 b], .int .i64 0]) (by simp [results, Try.results69, go_sem, c0, c1, c2, c3, c4, c5, f0, f1, f2, f3, f4, f5, ho]) rfl ⟨rfl, Ext.setCell (Ext.setCell X3.out (by show w.heap.size ≤ w.heap.size + 1 + 1; omega) _) (by show w.heap.size ≤ w.heap.size + 1 + 1; omega) _⟩
set_option maxHeartbeats 1000000 in
theorem then_add (x : W) (b : Int) (w : World) (hx : okW x = true) (hy : okW (false, b) = true) (q : Bool) (hq : okW (x.1, x.2 + b) = q) : Calls Try.prog 69 #[wV x, wV (false, b)] w fun e w' => e = .returned (.tuple #[wV (if q = true then (x.1, x.2 + b) else (false, 0)), if q = true then .int .i64 0 else .int .i64 1]) ∧ Ext w w' := by
  have HD := Lib.hid (fun w => may_any (x.1, x.2 + b) w)
  rw [hq] at HD
  clear hq
  have HM := Lib.hid (fun w => may_any x w)
  have HN := Lib.hid (fun w => may_any (false, b) w)
  have hbx := okW_bd hx
  have hby := okW_bd hy
  rw [hx] at HM
  rw [hy] at HN
  obtain ⟨s, a⟩ := x
  clear hx hy
  dsimp only at hbx hby
  obtain ⟨ha1, ha2⟩ := hbx
  obtain ⟨hb1, hb2⟩ := hby
  dsimp only at HD ⊢
  have F0 := Lib.hid (F3.new w 37 37 37 (.bool s) (.int .i64 a) (.bool false) (.int .i64 b) (.bool false) (.int .i64 0))
  cases q with
  | true =>
    simp only [if_true, if_false, Bool.false_eq_true] at *
    go_enter Try.func69, Try.ntmps69
    go_wp2_with fail
    refine (HM.out _).mono ?_
    rintro xe w1 ⟨rfl, he1⟩
    have F1 := Lib.hid (F0.out.ext he1)
    have X1 := Lib.hid (((((Ext.refl w).alloc _).alloc _).alloc _).trans he1)
    clear he1
    obtain ⟨c0, c1, c2, c3, c4, c5⟩ := F1.out.cells
    obtain ⟨f0, f1, f2, f3, f4, f5⟩ := F1.out.marks
    go_wp2_with fail
    clear c0 c1 c2 c3 c4 c5 f0 f1 f2 f3 f4 f5
    refine (HN.out _).mono ?_
    rintro xe w2 ⟨rfl, he2⟩
    have F2 := Lib.hid (F1.out.ext he2)
    have X2 := Lib.hid (X1.out.trans he2)
    clear he2
    obtain ⟨c0, c1, c2, c3, c4, c5⟩ := F2.out.cells
    obtain ⟨f0, f1, f2, f3, f4, f5⟩ := F2.out.marks
    have tw := fun z u => ((F2.out.set10 z).set11 u).cells.2.2.1
    have tv := fun z u => ((F2.out.set10 z).set11 u).cells.2.2.2.1
    go_wp2_with fail
    clear c0 c1 c2 c3 c4 c5 f0 f1 f2 f3 f4 f5 tw tv
    refine (HD.out _).mono ?_
    rintro xe w3 ⟨rfl, he3⟩
    have F3 := Lib.hid (((F2.out.set10 (.bool s)).set11 (.int .i64 (a + b))).ext he3)
    have X3 := Lib.hid (((X2.out.setCell (p := ⟨w.heap.size + 1, 0, none⟩) (by show w.heap.size ≤ w.heap.size + 1; omega) (.bool s)).setCell (p := ⟨w.heap.size + 1, 1, none⟩) (by show w.heap.size ≤ w.heap.size + 1; omega) (.int .i64 (a + b))).trans he3)
    clear he3
    obtain ⟨c0, c1, c2, c3, c4, c5⟩ := F3.out.cells
    obtain ⟨f0, f1, f2, f3, f4, f5⟩ := F3.out.marks
    go_wp2
    have ho := F3.out.out
    exact bodyPost_ret (v := .tuple #[.agg #[.bool s, .int .i64 (a + b)], .int .i64 0]) (by simp [results, Try.results69, go_sem, c0, c1, c2, c3, c4, c5, f0, f1, f2, f3, f4, f5, ho]) rfl ⟨rfl, Ext.setCell (Ext.setCell X3.out (by show w.heap.size ≤ w.heap.size + 1 + 1; omega) _) (by show w.heap.size ≤ w.heap.size + 1 + 1; omega) _⟩
  | false =>
    simp only [if_true, if_false, Bool.false_eq_true] at *
    go_enter Try.func69, Try.ntmps69
    go_wp2_with fail
    refine (HM.out _).mono ?_
    rintro xe w1 ⟨rfl, he1⟩
    have F1 := Lib.hid (F0.out.ext he1)
    have X1 := Lib.hid (((((Ext.refl w).alloc _).alloc _).alloc _).trans he1)
    clear he1
    obtain ⟨c0, c1, c2, c3, c4, c5⟩ := F1.out.cells
    obtain ⟨f0, f1, f2, f3, f4, f5⟩ := F1.out.marks
    go_wp2_with fail
    clear c0 c1 c2 c3 c4 c5 f0 f1 f2 f3 f4 f5
    refine (HN.out _).mono ?_
    rintro xe w2 ⟨rfl, he2⟩
    have F2 := Lib.hid (F1.out.ext he2)
    have X2 := Lib.hid (X1.out.trans he2)
    clear he2
    obtain ⟨c0, c1, c2, c3, c4, c5⟩ := F2.out.cells
    obtain ⟨f0, f1, f2, f3, f4, f5⟩ := F2.out.marks
    have tw := fun z u => ((F2.out.set10 z).set11 u).cells.2.2.1
    have tv := fun z u => ((F2.out.set10 z).set11 u).cells.2.2.2.1
    go_wp2_with fail
    clear c0 c1 c2 c3 c4 c5 f0 f1 f2 f3 f4 f5 tw tv
    refine (HD.out _).mono ?_
    rintro xe w3 ⟨rfl, he3⟩
    have F3 := Lib.hid (((F2.out.set10 (.bool s)).set11 (.int .i64 (a + b))).ext he3)
    have X3 := Lib.hid (((X2.out.setCell (p := ⟨w.heap.size + 1, 0, none⟩) (by show w.heap.size ≤ w.heap.size + 1; omega) (.bool s)).setCell (p := ⟨w.heap.size + 1, 1, none⟩) (by show w.heap.size ≤ w.heap.size + 1; omega) (.int .i64 (a + b))).trans he3)
    clear he3
    obtain ⟨c0, c1, c2, c3, c4, c5⟩ := F3.out.cells
    obtain ⟨f0, f1, f2, f3, f4, f5⟩ := F3.out.marks
    go_wp2
    have ho := F3.out.out
    exact bodyPost_ret (v := .tuple #[.agg #[.bool false, .int .i64 0], .int .i64 1]) (by simp [results, Try.results69, go_sem, c0, c1, c2, c3, c4, c5, f0, f1, f2, f3, f4, f5, ho]) rfl ⟨rfl, Ext.setCell (Ext.setCell X3.out (by show w.heap.size ≤ w.heap.size + 1 + 1; omega) _) (by show w.heap.size ≤ w.heap.size + 1 + 1; omega) _⟩
set_option maxHeartbeats 1000000 in
theorem rthen_bad1 (x y : W) (w : World) (hx : okW x = false) : Calls Try.prog 48 #[wV x, wV y] w fun e w' => e = .returned (.tuple #[wV (false, 0), .bool false]) ∧ Ext w w' := by
  have HM := Lib.hid (fun w => rway_any x w)
  rw [hx] at HM
  obtain ⟨s, a⟩ := x
  obtain ⟨t, b⟩ := y
  clear hx
  have F0 := Lib.hid (F3.new w 37 37 37 (.bool s) (.int .i64 a) (.bool t) (.int .i64 b) (.bool false) (.int .i64 0))
  go_enter Try.func48, Try.ntmps48
  go_wp2_with fail
  refine (HM.out _).mono ?_
  rintro xe w1 ⟨rfl, he1⟩
  have F1 := Lib.hid (F0.out.ext he1)
  have X1 := Lib.hid (((((Ext.refl w).alloc _).alloc _).alloc _).trans he1)
  clear he1
  obtain ⟨c0, c1, c2, c3, c4, c5⟩ := F1.out.cells
  obtain ⟨f0, f1, f2, f3, f4, f5⟩ := F1.out.marks
  go_wp2
  have ho := F1.out.out
  exact bodyPost_ret (v := .tuple #[.agg #[.bool false, .int .i64 0], .bool false]) (by simp [results, Try.results48, go_sem, c0, c1, c2, c3, c4, c5, f0, f1, f2, f3, f4, f5, ho]) rfl ⟨rfl, Ext.setCell (Ext.setCell X1.out (by show w.heap.size ≤ w.heap.size + 1 + 1; omega) _) (by show w.heap.size ≤ w.heap.size + 1 + 1; omega) _⟩
set_option maxHeartbeats 1000000 in
theorem rthen_bad2 (x y : W) (w : World) (hx : okW x = true) (hy : okW y = false) : Calls Try.prog 48 #[wV x, wV y] w fun e w' => e = .returned (.tuple #[wV (false, 0), .bool false]) ∧ Ext w w' := by
  have HM := Lib.hid (fun w => rway_any x w)
  have HN := Lib.hid (fun w => rway_any y w)
  rw [hx] at HM
  rw [hy] at HN
  obtain ⟨s, a⟩ := x
  obtain ⟨t, b⟩ := y
  clear hx hy
  have F0 := Lib.hid (F3.new w 37 37 37 (.bool s) (.int .i64 a) (.bool t) (.int .i64 b) (.bool false) (.int .i64 0))
  go_enter Try.func48, Try.ntmps48
  go_wp2_with fail
  refine (HM.out _).mono ?_
  rintro xe w1 ⟨rfl, he1⟩
  have F1 := Lib.hid (F0.out.ext he1)
  have X1 := Lib.hid (((((Ext.refl w).alloc _).alloc _).alloc _).trans he1)
  clear he1
  obtain ⟨c0, c1, c2, c3, c4, c5⟩ := F1.out.cells
  obtain ⟨f0, f1, f2, f3, f4, f5⟩ := F1.out.marks
  go_wp2_with fail
  clear c0 c1 c2 c3 c4 c5 f0 f1 f2 f3 f4 f5
  refine (HN.out _).mono ?_
  rintro xe w2 ⟨rfl, he2⟩
  have F2 := Lib.hid (F1.out.ext he2)
  have X2 := Lib.hid (X1.out.trans he2)
  clear he2
  obtain ⟨c0, c1, c2, c3, c4, c5⟩ := F2.out.cells
  obtain ⟨f0, f1, f2, f3, f4, f5⟩ := F2.out.marks
  go_wp2
  have ho := F2.out.out
  exact bodyPost_ret (v := .tuple #[.agg #[.bool false, .int .i64 0], .bool false]) (by simp [results, Try.results48, go_sem, c0, c1, c2, c3, c4, c5, f0, f1, f2, f3, f4, f5, ho]) rfl ⟨rfl, Ext.setCell (Ext.setCell X2.out (by show w.heap.size ≤ w.heap.size + 1 + 1; omega) _) (by show w.heap.size ≤ w.heap.size + 1 + 1; omega) _⟩
set_option maxHeartbeats 1000000 in
theorem rthen_set (x : W) (b : Int) (w : World) (hx : okW x = true) (hy : okW (true, b) = true) : Calls Try.prog 48 #[wV x, wV (true, b)] w fun e w' => e = .returned (.tuple #[wV (true, b), .bool true]) ∧ Ext w w' := by
  have HM := Lib.hid (fun w => rway_any x w)
  have HN := Lib.hid (fun w => rway_any (true, b) w)
  have hbx := okW_bd hx
  have hby := okW_bd hy
  rw [hx] at HM
  rw [hy] at HN
  obtain ⟨s, a⟩ := x
  clear hx hy
  dsimp only at hbx hby
  obtain ⟨ha1, ha2⟩ := hbx
  obtain ⟨hb1, hb2⟩ := hby
  have F0 := Lib.hid (F3.new w 37 37 37 (.bool s) (.int .i64 a) (.bool true) (.int .i64 b) (.bool false) (.int .i64 0))
  go_enter Try.func48, Try.ntmps48
  go_wp2_with fail
  refine (HM.out _).mono ?_
  rintro xe w1 ⟨rfl, he1⟩
  have F1 := Lib.hid (F0.out.ext he1)
  have X1 := Lib.hid (((((Ext.refl w).alloc _).alloc _).alloc _).trans he1)
  clear he1
  obtain ⟨c0, c1, c2, c3, c4, c5⟩ := F1.out.cells
  obtain ⟨f0, f1, f2, f3, f4, f5⟩ := F1.out.marks
  go_wp2_with fail
  clear c0 c1 c2 c3 c4 c5 f0 f1 f2 f3 f4 f5
  refine (HN.out _).mono ?_
  rintro xe w2 ⟨rfl, he2⟩
  have F2 := Lib.hid (F1.out.ext he2)
  have X2 := Lib.hid (X1.out.trans he2)
  clear he2
  obtain ⟨c0, c1, c2, c3, c4, c5⟩ := F2.out.cells
  obtain ⟨f0, f1, f2, f3, f4, f5⟩ := F2.out.marks
  go_wp2
  have ho := F2.out.out
  exact bodyPost_ret (v := .tuple #[.agg #[.bool true, .int .i64 b], .bool true]) (by simp [results, Try.results48, go_sem, c0, c1, c2, c3, c4, c5, f0, f1, f2, f3, f4, f5, ho]) rfl ⟨rfl, Ext.setCell (Ext.setCell X2.out (by show w.heap.size ≤ w.heap.size + 1 + 1; omega) _) (by show w.heap.size ≤ w.heap.size + 1 + 1; omega) _⟩
set_option maxHeartbeats 1000000 in
theorem rthen_add (x : W) (b : Int) (w : World) (hx : okW x = true) (hy : okW (false, b) = true) (q : Bool) (hq : okW (x.1, x.2 + b) = q) : Calls Try.prog 48 #[wV x, wV (false, b)] w fun e w' => e = .returned (.tuple #[wV (if q = true then (x.1, x.2 + b) else (false, 0)), if q = true then .bool true else .bool false]) ∧ Ext w w' := by
  have HD := Lib.hid (fun w => rway_any (x.1, x.2 + b) w)
  rw [hq] at HD
  clear hq
  have HM := Lib.hid (fun w => rway_any x w)
  have HN := Lib.hid (fun w => rway_any (false, b) w)
  have hbx := okW_bd hx
  have hby := okW_bd hy
  rw [hx] at HM
  rw [hy] at HN
  obtain ⟨s, a⟩ := x
  clear hx hy
  dsimp only at hbx hby
  obtain ⟨ha1, ha2⟩ := hbx
  obtain ⟨hb1, hb2⟩ := hby
  dsimp only at HD ⊢
  have F0 := Lib.hid (F3.new w 37 37 37 (.bool s) (.int .i64 a) (.bool false) (.int .i64 b) (.bool false) (.int .i64 0))
  cases q with
  | true =>
    simp only [if_true, if_false, Bool.false_eq_true] at *
    go_enter Try.func48, Try.ntmps48
    go_wp2_with fail
    refine (HM.out _).mono ?_
    rintro xe w1 ⟨rfl, he1⟩
    have F1 := Lib.hid (F0.out.ext he1)
    have X1 := Lib.hid (((((Ext.refl w).alloc _).alloc _).alloc _).trans he1)
    clear he1
    obtain ⟨c0, c1, c2, c3, c4, c5⟩ := F1.out.cells
    obtain ⟨f0, f1, f2, f3, f4, f5⟩ := F1.out.marks
    go_wp2_with fail
    clear c0 c1 c2 c3 c4 c5 f0 f1 f2 f3 f4 f5
    refine (HN.out _).mono ?_
    rintro xe w2 ⟨rfl, he2⟩
    have F2 := Lib.hid (F1.out.ext he2)
    have X2 := Lib.hid (X1.out.trans he2)
    clear he2
    obtain ⟨c0, c1, c2, c3, c4, c5⟩ := F2.out.cells
    obtain ⟨f0, f1, f2, f3, f4, f5⟩ := F2.out.marks
    have tw := fun z => (F2.out.set01 z).cells.1
    have tv := fun z => (F2.out.set01 z).cells.2.1
    go_wp2_with fail
    clear c0 c1 c2 c3 c4 c5 f0 f1 f2 f3 f4 f5 tw tv
    refine (HD.out _).mono ?_
    rintro xe w3 ⟨rfl, he3⟩
    have F3 := Lib.hid ((F2.out.set01 (.int .i64 (a + b))).ext he3)
    have X3 := Lib.hid ((X2.out.setCell (p := ⟨w.heap.size, 1, none⟩) (by show w.heap.size ≤ w.heap.size; omega) (.int .i64 (a + b))).trans he3)
    clear he3
    obtain ⟨c0, c1, c2, c3, c4, c5⟩ := F3.out.cells
    obtain ⟨f0, f1, f2, f3, f4, f5⟩ := F3.out.marks
    go_wp2
    have ho := F3.out.out
    exact bodyPost_ret (v := .tuple #[.agg #[.bool s, .int .i64 (a + b)], .bool true]) (by simp [results, Try.results48, go_sem, c0, c1, c2, c3, c4, c5, f0, f1, f2, f3, f4, f5, ho]) rfl ⟨rfl, Ext.setCell (Ext.setCell X3.out (by show w.heap.size ≤ w.heap.size + 1 + 1; omega) _) (by show w.heap.size ≤ w.heap.size + 1 + 1; omega) _⟩
  | false =>
    simp only [if_true, if_false, Bool.false_eq_true] at *
    go_enter Try.func48, Try.ntmps48
    go_wp2_with fail
    refine (HM.out _).mono ?_
    rintro xe w1 ⟨rfl, he1⟩
    have F1 := Lib.hid (F0.out.ext he1)
    have X1 := Lib.hid (((((Ext.refl w).alloc _).alloc _).alloc _).trans he1)
    clear he1
    obtain ⟨c0, c1, c2, c3, c4, c5⟩ := F1.out.cells
    obtain ⟨f0, f1, f2, f3, f4, f5⟩ := F1.out.marks
    go_wp2_with fail
    clear c0 c1 c2 c3 c4 c5 f0 f1 f2 f3 f4 f5
    refine (HN.out _).mono ?_
    rintro xe w2 ⟨rfl, he2⟩
    have F2 := Lib.hid (F1.out.ext he2)
    have X2 := Lib.hid (X1.out.trans he2)
    clear he2
    obtain ⟨c0, c1, c2, c3, c4, c5⟩ := F2.out.cells
    obtain ⟨f0, f1, f2, f3, f4, f5⟩ := F2.out.marks
    have tw := fun z => (F2.out.set01 z).cells.1
    have tv := fun z => (F2.out.set01 z).cells.2.1
    go_wp2_with fail
    clear c0 c1 c2 c3 c4 c5 f0 f1 f2 f3 f4 f5 tw tv
    refine (HD.out _).mono ?_
    rintro xe w3 ⟨rfl, he3⟩
    have F3 := Lib.hid ((F2.out.set01 (.int .i64 (a + b))).ext he3)
    have X3 := Lib.hid ((X2.out.setCell (p := ⟨w.heap.size, 1, none⟩) (by show w.heap.size ≤ w.heap.size; omega) (.int .i64 (a + b))).trans he3)
    clear he3
    obtain ⟨c0, c1, c2, c3, c4, c5⟩ := F3.out.cells
    obtain ⟨f0, f1, f2, f3, f4, f5⟩ := F3.out.marks
    go_wp2
    have ho := F3.out.out
    exact bodyPost_ret (v := .tuple #[.agg #[.bool false, .int .i64 0], .bool false]) (by simp [results, Try.results48, go_sem, c0, c1, c2, c3, c4, c5, f0, f1, f2, f3, f4, f5, ho]) rfl ⟨rfl, Ext.setCell (Ext.setCell X3.out (by show w.heap.size ≤ w.heap.size + 1 + 1; omega) _) (by show w.heap.size ≤ w.heap.size + 1 + 1; omega) _⟩
theorem then_any (x y : W) (w : World) : Calls Try.prog 69 #[wV x, wV y] w fun e w' => e = .returned (.tuple #[wV (thenW x y).1, .int .i64 (thenW x y).2]) ∧ Ext w w' := by
  unfold thenW
  cases hx : okW x with
  | false => rw [if_pos (.inl rfl)]; exact then_bad1 x y w hx
  | true =>
    cases hy : okW y with
    | false => rw [if_pos (.inr rfl)]; exact then_bad2 x y w hx hy
    | true =>
      rw [if_neg (by simp)]
      unfold bothW
      obtain ⟨t, b⟩ := y
      cases t with
      | true => rw [if_pos rfl, hy, if_neg (by simp)]; exact then_set x b w hx hy
      | false =>
        have h := then_add x b w hx hy _ rfl
        have e : (if ((false, b) : W).1 = true then ((false, b) : W) else (x.1, x.2 + ((false, b) : W).2)) = (x.1, x.2 + b) := by simp
        rw [e]
        cases hq : okW (x.1, x.2 + b) with
        | true => rw [hq] at h; exact h
        | false => rw [hq] at h; exact h
theorem rthen_any (x y : W) (w : World) : Calls Try.prog 48 #[wV x, wV y] w fun e w' => e = .returned (.tuple #[wV (thenW x y).1, .bool (decide ((thenW x y).2 = 0))]) ∧ Ext w w' := by
  unfold thenW
  cases hx : okW x with
  | false => rw [if_pos (.inl rfl)]; exact rthen_bad1 x y w hx
  | true =>
    cases hy : okW y with
    | false => rw [if_pos (.inr rfl)]; exact rthen_bad2 x y w hx hy
    | true =>
      rw [if_neg (by simp)]
      unfold bothW
      obtain ⟨t, b⟩ := y
      cases t with
      | true => rw [if_pos rfl, hy, if_neg (by simp)]; exact rthen_set x b w hx hy
      | false =>
        have h := rthen_add x b w hx hy _ rfl
        have e : (if ((false, b) : W).1 = true then ((false, b) : W) else (x.1, x.2 + ((false, b) : W).2)) = (x.1, x.2 + b) := by simp
        rw [e]
        cases hq : okW (x.1, x.2 + b) with
        | true => rw [hq] at h; exact h
        | false => rw [hq] at h; exact h
end Go.Proofs.Ytcacicgkebcdkaa.Mo
