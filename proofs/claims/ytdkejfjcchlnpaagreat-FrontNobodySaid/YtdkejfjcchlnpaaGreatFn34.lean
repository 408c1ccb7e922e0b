/-
  MomRef, MomWay, MomThen, packed: what the claim needs of them.
-/
import Derived.Test.YtdkejfjcchlnpaaGreatFn09
set_option maxHeartbeats 40000000
open Go.Lib (hid)
set_option linter.unusedSimpArgs false
set_option linter.unusedVariables false
set_option maxRecDepth 100000
namespace Go.Proofs.YtdkejfjcchlnpaaGreat.Mo
open Go.RowKit Go.Ox Go.Shelf
def a4t (a b c d : Int) : Bool := decide ((a, b) = (c, d))
theorem b0E {a b c d : Int} (h : (a, b) = (c, d)) : a4t a b c d = true := by unfold a4t; simpa using h
theorem b0F {a b c d : Int} (h : (a, b) ≠ (c, d)) : a4t a b c d = false := by unfold a4t; simpa using h
theorem b35 (a b c d : Int) : a4t a b c d = ((a == c) && (b == d)) := by
 unfold a4t; rw [Bool.eq_iff_iff]; simp
theorem b4f (a b c d : Int) (w : World) : (Op.equalIn 10000 29 (.agg #[.int .i64 a, .int .i64 b]) (.agg #[.int .i64 c, .int .i64 d])).run Tryz.prog w = .ok (a4t a b c d) w := by
 have u3 := Tryz.underlying3;have a3 := Tryz.isAgg3;have z3 := Tryz.sizeOf3;have hS : Tryz.prog.underlying 29 = some (.struct (Tryz.prog.fieldsOf 29)) := by kernel_rfl
 have hp : Tryz.prog.stoodInHeld 29 = false := by kernel_rfl
 rw [show (10000 : Nat) = 9999 + 1 from rfl, run_equalIn_agg w 9999 29 _ _ hS hp];simp only [Program.fieldsOf, Tryz.underlying29];rw [b35];go_simp
 by_cases h1 : a = c <;> by_cases h2 : b = d <;> simp [h1, h2]
theorem eqM (a b c d : Int) (w : World) : (binOp .eql 29 (.agg #[.int .i64 a, .int .i64 b]) (.agg #[.int .i64 c, .int .i64 d])).run Tryz.prog w = .ok (.bool (a4t a b c d)) w := by
 rw [run_eql_struct, b4f]; rfl
theorem neM (a b c d : Int) (w : World) : (binOp .neq 29 (.agg #[.int .i64 a, .int .i64 b]) (.agg #[.int .i64 c, .int .i64 d])).run Tryz.prog w = .ok (.bool (!a4t a b c d)) w := by
 rw [run_neq_struct, b4f]; rfl
theorem guardM : Tryz.prog.eqGuardType Tryz.prog.depth 29 = false := by kernel_rfl
theorem b2e (A B : Option Addr) (n m c d : Nat) (w : World) (hne : n ≠ m) : Calls Tryz.prog 22 #[.slice A n c, .slice B m d] w fun e w' => e = .returned (.bool false) ∧ w = w' := by
 have h1 : ((n : Int) != (m : Int)) = true := by rw [bne_iff_ne]; omega
 go_enter Tryz.func22, Tryz.ntmps22
 go_wp2
 go_ret
 exact ⟨rfl, rfl⟩
theorem b2f (v u : Value) (l r : List Mom.M) (w : World) (hv : RP w v l) (hu : RP w u r) : Calls Tryz.prog 22 #[v, u] w fun e w' => e = .returned (.bool (decide (l = r))) ∧ Ext w w' := by
 obtain ⟨A, c, rfl⟩ := hv.form;obtain ⟨B, d, rfl⟩ := hu.form
 by_cases hl : l.length = r.length
 · have HV := hid hv
   have HU := hid hu;have HL := hid hl;have hlb : l.length ≤ 9223372036854775807 := by have := hv.nc; unfold maxLen at this; omega
   rw [← hl] at HU ⊢;clear hv hu hl;have hE := neM;have HE := hid (b4f);have hG := guardM
   go_enter Tryz.func22, Tryz.ntmps22
   go_wp2
   go_loopw [5] (fun i wr => ∃ k : Nat, k ≤ l.length ∧ i = .int .i64 k ∧ l.take k = r.take k ∧ Ext w wr) (fun i _ => l.length - (intOf i).toNat)
   case atStart => exact ⟨0, Nat.zero_le _, rfl, by simp, Ext.refl _⟩
   case round =>
   obtain ⟨k, hk, rfl, ht, hext⟩ := hrel;have HT := hid ht;have HX := hid hext;clear ht hext
   by_cases hlt : k < l.length
   · have g1 : (k : Int) < (l.length : Int) := by omega
     have g0 : 0 ≤ (k : Int) := by omega
     have hlr : k < r.length := by have := HL.o; omega
     obtain ⟨b1, o1, rfl, c1, c2⟩ := HV.o.at_ hlt;obtain ⟨b2, o2, rfl, c3, c4⟩ := HU.o.at_ hlr;have c1 := HX.o.cell c1;have c2 := HX.o.cell c2;have c3 := HX.o.cell c3;have c4 := HX.o.cell c4;obtain ⟨hst, hsn⟩ := a8j l r k hlt hlr HT.o;have HST := hid hst;have HSN := hid hsn;clear hst hsn;generalize l[k] = x at *;generalize r[k] = y at *;obtain ⟨x1, x2⟩ := x;obtain ⟨y1, y2⟩ := y;dsimp only at *
     by_cases hxy : (x1, x2) = (y1, y2)
     · have HN := hid (HST.o hxy)
       have hd := b0E hxy;clear hxy HST HSN
       go_wp2
       refine yx ?_;refine ya ?_;refine yl2 c1 c2 ?_;refine ya ?_;refine yl2 c3 c4 ?_;refine yl0 ?_;refine a0f ?_;intro w5 hx5 hS5
       iterate 9 (rintro _ rfl)
       dsimp only [a1K];go_simp;have HX5 := hid hx5;clear hx5
       go_wp2
       exact ⟨⟨k + 1, by omega, by go_num, HN.o, HX.o.trans HX5.o⟩, by simp [intOf]; omega⟩
     have HN := hid (HSN.o hxy);have hd := b0F hxy;clear hxy HST HSN
     go_wp2
     refine yx ?_;refine ya ?_;refine yl2 c1 c2 ?_;refine ya ?_;refine yl2 c3 c4 ?_;refine yl0 ?_;refine a0f ?_;intro w5 hx5 hS5
     iterate 9 (rintro _ rfl)
     dsimp only [a1K];go_simp;have HX5 := hid hx5;clear hx5
     go_wp2
     go_ret
     rw [HN.o];exact ⟨rfl, HX.o.trans HX5.o⟩
   obtain rfl : k = l.length := by omega
   have hq : decide (l = r) = true := by
    have h1 := HT.o;have h2 := HL.o;rw [List.take_length, h2, List.take_length] at h1;simpa using h1
   have HQ := hid hq;clear hq
   go_wp2
   go_ret
   rw [HQ.o];exact ⟨rfl, HX.o⟩
 refine (b2e A B _ _ c d w hl).mono ?_;rintro e w' ⟨rfl, rfl⟩;have : decide (l = r) = false := by simp; intro h; exact hl (by rw [h])
 rw [this];exact ⟨rfl, Ext.refl _⟩
end Go.Proofs.YtdkejfjcchlnpaaGreat.Mo
namespace Go.Proofs.YtdkejfjcchlnpaaGreat.Mo
open Go.RowKit Go.Ox Go.Shelf
abbrev W := Bool × Int
abbrev wV (x : W) : Value := .agg #[.bool x.1, .int .i64 x.2]
def okW (x : W) : Bool := decide (0 ≤ x.2) && decide (x.2 < 65536)
def a2q (x : W) (m : Mom.M) : Mom.M := (m.1, (if x.1 = true then 0 else m.2) + x.2)
def a1J (x : W) (m : Mom.M) : Mom.M × Int :=
 if okW x = false then ((0, 0), 1) else if Mom.ok m = false then ((0, 0), 40) else if Mom.ok (a2q x m) = false then ((0, 0), 40) else (a2q x m, 0)
def b2g (a b : W) : W := if b.1 = true then b else (a.1, a.2 + b.2)
def b0G (a b : W) : W × Int := if okW a = false ∨ okW b = false then ((false, 0), 1) else if okW (b2g a b) = false then ((false, 0), 1) else (b2g a b, 0)
theorem a1g (x : W) (w : World) : Calls Tryz.prog 103 #[wV x] w fun e w' => e = .returned (.bool (okW x)) ∧ Ext w w' := by
 obtain ⟨s, a⟩ := x;unfold okW;dsimp only
 by_cases h1 : 0 ≤ a
 · have d1 : decide (0 ≤ a) = true := by simpa using h1
   rw [d1, Bool.true_and]
   by_cases h2 : a < 65536
   · have d2 : decide (a < 65536) = true := by simpa using h2
     rw [d2]
     go_enter Tryz.func103, Tryz.ntmps103
     go_wp2
     go_ret
     exact ⟨rfl, (by repeat (first | assumption | exact Ext.refl _ | refine Ext.alloc ?_ _ | refine Ext.setCell ?_ (by first | omega | (simp; done) | (simp; omega)) _ | refine Ext.trans ?_ (by assumption)))⟩
   have d2 : decide (a < 65536) = false := by simpa using h2
   rw [d2]
   go_enter Tryz.func103, Tryz.ntmps103
   go_wp2
   go_ret
   exact ⟨rfl, (by repeat (first | assumption | exact Ext.refl _ | refine Ext.alloc ?_ _ | refine Ext.setCell ?_ (by first | omega | (simp; done) | (simp; omega)) _ | refine Ext.trans ?_ (by assumption)))⟩
 have d1 : decide (0 ≤ a) = false := by simpa using h1
 rw [d1, Bool.false_and]
 go_enter Tryz.func103, Tryz.ntmps103
 go_wp2
 go_ret
 exact ⟨rfl, (by repeat (first | assumption | exact Ext.refl _ | refine Ext.alloc ?_ _ | refine Ext.setCell ?_ (by first | omega | (simp; done) | (simp; omega)) _ | refine Ext.trans ?_ (by assumption)))⟩
theorem a5n {x : W} (h : okW x = true) : 0 ≤ x.2 ∧ x.2 < 65536 := by unfold okW at h; simpa using h
theorem ok_bd {m : Mom.M} (h : Mom.ok m = true) : 0 ≤ m.1 ∧ m.1 < 65536 ∧ 0 ≤ m.2 ∧ m.2 < 65536 := by unfold Mom.ok at h; simp at h; omega
structure Fr (w : World) (n : Nat) (s : Bool) (a x y : Int) : Prop where
 b0 : Blk w n 107 #[.bool s, .int .i64 a]
 b1 : Blk w (n + 1) 29 #[.int .i64 x, .int .i64 y]
 b2 : Blk w (n + 1 + 1) 29 #[.int .i64 0, .int .i64 0]
theorem Fr.new (w : World) (s : Bool) (a x y : Int) : Fr (((w.alloc (.cells #[.bool s, .int .i64 a] 107)).alloc (.cells #[.int .i64 x, .int .i64 y] 29)).alloc (.cells #[.int .i64 0, .int .i64 0] 29)) w.heap.size s a x y := by
 have hn1 : (w.alloc (.cells #[.bool s, .int .i64 a] 107)).heap.size = w.heap.size + 1 := by simp
 have hn2 : ((w.alloc (.cells #[.bool s, .int .i64 a] 107)).alloc (.cells #[.int .i64 x, .int .i64 y] 29)).heap.size = w.heap.size + 1 + 1 := by simp
 have h1 := Blk.new (w.alloc (.cells #[.bool s, .int .i64 a] 107)) 29 #[.int .i64 x, .int .i64 y];have h2 := Blk.new ((w.alloc (.cells #[.bool s, .int .i64 a] 107)).alloc (.cells #[.int .i64 x, .int .i64 y] 29)) 29 #[.int .i64 0, .int .i64 0];rw [hn1] at h1;rw [hn2] at h2;exact ⟨((Blk.new w _ _).ext ((Ext.refl _).alloc _)).ext ((Ext.refl _).alloc _), h1.ext ((Ext.refl _).alloc _), h2⟩
section
variable {w w' : World} {n : Nat} {s : Bool} {a x y : Int}
theorem Fr.ext (h : Fr w n s a x y) (he : Ext w w') : Fr w' n s a x y := ⟨h.b0.ext he, h.b1.ext he, h.b2.ext he⟩
theorem Fr.cells (h : Fr w n s a x y) : w.cell? ⟨n, 0, none⟩ = some (.bool s) ∧ w.cell? ⟨n, 1, none⟩ = some (.int .i64 a) ∧ w.cell? ⟨n + 1, 0, none⟩ = some (.int .i64 x) ∧ w.cell? ⟨n + 1, 1, none⟩ = some (.int .i64 y) :=
 ⟨h.b0.cell 0, h.b0.cell 1, h.b1.cell 0, h.b1.cell 1⟩
theorem Fr.marks (h : Fr w n s a x y) : w.frozen? ⟨n + 1, 0, none⟩ = false ∧ w.frozen? ⟨n + 1, 1, none⟩ = false ∧ w.frozen? ⟨n + 1 + 1, 0, none⟩ = false ∧ w.frozen? ⟨n + 1 + 1, 1, none⟩ = false :=
 ⟨h.b1.frozen 0, h.b1.frozen 1, h.b2.frozen 0, h.b2.frozen 1⟩
theorem Fr.res (h : Fr w n s a x y) : w.cell? ⟨n + 1 + 1, 0, none⟩ = some (.int .i64 0) ∧ w.cell? ⟨n + 1 + 1, 1, none⟩ = some (.int .i64 0) := ⟨h.b2.cell 0, h.b2.cell 1⟩
theorem Fr.once (h : Fr w n s a x y) (z : Int) : Fr (w.setCell ⟨n + 1, 1, none⟩ (.int .i64 z)) n s a x z := ⟨h.b0.far (by simp) _, h.b1.a0U 1 _, h.b2.far (by simp) _⟩
theorem Fr.a8W (h : Fr w n s a x y) (u z : Int) : Fr ((w.setCell ⟨n + 1, 1, none⟩ (.int .i64 u)).setCell ⟨n + 1, 1, none⟩ (.int .i64 z)) n s a x z := (h.once u).once z
theorem Fr.o (h : Fr w n s a x y) (u v : Value) : ((w.setCell ⟨n + 1 + 1, 0, none⟩ u).setCell ⟨n + 1 + 1, 1, none⟩ v).cell? ⟨n + 1 + 1, 0, none⟩ = some u ∧ ((w.setCell ⟨n + 1 + 1, 0, none⟩ u).setCell ⟨n + 1 + 1, 1, none⟩ v).cell? ⟨n + 1 + 1, 1, none⟩ = some v :=
 ⟨((h.b2.a0U 0 u).a0U 1 v).cell 0, ((h.b2.a0U 0 u).a0U 1 v).cell 1⟩
end
theorem b2h (x : W) (m : Mom.M) (w : World) (hx : okW x = false) : Calls Tryz.prog 73 #[wV x, mV m] w fun e w' => e = .returned (.tuple #[mV (0, 0), .int .i64 1]) ∧ Ext w w' := by
 have HM := hid (fun w => a1g x w)
 rw [hx] at HM;obtain ⟨s, a⟩ := x;obtain ⟨x, y⟩ := m;clear hx;have F0 := hid (Fr.new w s a x y);have hnn : w.heap.size ≤ w.heap.size := Nat.le_refl _
 go_enter Tryz.func73, Tryz.ntmps73
 go_wp2_with fail
 refine (HM.o _).mono ?_;rintro xe w1 ⟨rfl, he1⟩;have F1 := hid (F0.o.ext he1);have X1 := hid (((((Ext.refl w).alloc _).alloc _).alloc _).trans he1);clear he1;obtain ⟨c0, c1, c2, c3⟩ := F1.o.cells;obtain ⟨f0, f1, f2, f3⟩ := F1.o.marks;obtain ⟨r0, r1⟩ := F1.o.res
 go_wp2
 have ho := F1.o.o;exact bodyPost_ret (v := .tuple #[.agg #[.int .i64 0, .int .i64 0], .int .i64 1]) (by simp [results, Tryz.results73, go_sem, c0, c1, c2, c3, f0, f1, f2, f3, r0, r1, ho]) rfl ⟨rfl, Ext.setCell (Ext.setCell X1.o (by show w.heap.size ≤ _ + 1 + 1; have := hnn; omega) _) (by show w.heap.size ≤ _ + 1 + 1; have := hnn; omega) _⟩
theorem b2i (x : W) (m : Mom.M) (w : World) (hx : okW x = true) (hm : Mom.ok m = false) : Calls Tryz.prog 73 #[wV x, mV m] w fun e w' => e = .returned (.tuple #[mV (0, 0), .int .i64 40]) ∧ Ext w w' := by
 have HM := hid (fun w => a1g x w)
 have HC := hid (fun w => a0p m w)
 rw [hx] at HM;rw [hm, if_neg (by simp)] at HC
 obtain ⟨s, a⟩ := x;obtain ⟨x, y⟩ := m;clear hx hm;have F0 := hid (Fr.new w s a x y);have hnn : w.heap.size ≤ w.heap.size := Nat.le_refl _
 go_enter Tryz.func73, Tryz.ntmps73
 go_wp2_with fail
 refine (HM.o _).mono ?_;rintro xe w1 ⟨rfl, he1⟩;have F1 := hid (F0.o.ext he1);have X1 := hid (((((Ext.refl w).alloc _).alloc _).alloc _).trans he1);clear he1;obtain ⟨c0, c1, c2, c3⟩ := F1.o.cells;obtain ⟨f0, f1, f2, f3⟩ := F1.o.marks;obtain ⟨r0, r1⟩ := F1.o.res
 go_wp2_with fail
 clear c0 c1 c2 c3 f0 f1 f2 f3 r0 r1;refine (HC.o _).mono ?_;rintro xe w2 ⟨rfl, he2⟩;have F2 := hid (F1.o.ext he2);have X2 := hid (X1.o.trans he2);clear he2;obtain ⟨c0, c1, c2, c3⟩ := F2.o.cells;obtain ⟨f0, f1, f2, f3⟩ := F2.o.marks;obtain ⟨r0, r1⟩ := F2.o.res
 go_wp2
 have ho := F2.o.o;exact bodyPost_ret (v := .tuple #[.agg #[.int .i64 0, .int .i64 0], .int .i64 40]) (by simp [results, Tryz.results73, go_sem, c0, c1, c2, c3, f0, f1, f2, f3, r0, r1, ho]) rfl ⟨rfl, Ext.setCell (Ext.setCell X2.o (by show w.heap.size ≤ _ + 1 + 1; have := hnn; omega) _) (by show w.heap.size ≤ _ + 1 + 1; have := hnn; omega) _⟩
theorem b0H (a : Int) (m : Mom.M) (w : World) (hx : okW (true, a) = true) (hm : Mom.ok m = true) (q : Bool) (hq : Mom.ok (a2q (true, a) m) = q) : Calls Tryz.prog 73 #[wV (true, a), mV m] w fun e w' => e = .returned (.tuple #[mV (if q = true then a2q (true, a) m else (0, 0)), .int .i64 (if q = true then 0 else 40)]) ∧ Ext w w' := by
 have HM := hid (fun w => a1g (true, a) w)
 have HC := hid (fun w => a0p m w)
 have HD := hid (fun w => a0p (a2q (true, a) m) w)
 have hb1 := a5n hx;have hb2 := ok_bd hm;rw [hx] at HM;rw [hm, if_pos rfl] at HC;rw [hq] at HD;obtain ⟨x, y⟩ := m;clear hx hm hq;unfold a2q at *;simp only [if_true, if_false, Bool.false_eq_true, Int.zero_add] at *;obtain ⟨ha1, ha2⟩ := hb1;obtain ⟨hx1, hx2, hy1, hy2⟩ := hb2;have F0 := hid (Fr.new w true a x y);have hnn : w.heap.size ≤ w.heap.size := Nat.le_refl _
 cases q with
 | true =>
  simp only [if_true] at *
  go_enter Tryz.func73, Tryz.ntmps73
  go_wp2_with fail
  refine (HM.o _).mono ?_;rintro xe w1 ⟨rfl, he1⟩;have F1 := hid (F0.o.ext he1);have X1 := hid (((((Ext.refl w).alloc _).alloc _).alloc _).trans he1);clear he1;obtain ⟨c0, c1, c2, c3⟩ := F1.o.cells;obtain ⟨f0, f1, f2, f3⟩ := F1.o.marks;obtain ⟨r0, r1⟩ := F1.o.res
  go_wp2_with fail
  clear c0 c1 c2 c3 f0 f1 f2 f3 r0 r1;refine (HC.o _).mono ?_;rintro xe w2 ⟨rfl, he2⟩;have F2 := hid (F1.o.ext he2);have X2 := hid (X1.o.trans he2);clear he2;obtain ⟨c0, c1, c2, c3⟩ := F2.o.cells;obtain ⟨f0, f1, f2, f3⟩ := F2.o.marks;obtain ⟨r0, r1⟩ := F2.o.res;have tw := fun u z => (F2.o.a8W u z).cells.2.2.2
  have tv := fun u z => (F2.o.a8W u z).cells.2.2.1
  go_wp2_with fail
  clear c0 c1 c2 c3 f0 f1 f2 f3 r0 r1 tw tv;refine (HD.o _).mono ?_;rintro xe w3 ⟨rfl, he3⟩;have F3 := hid ((F2.o.a8W 0 a).ext he3);have X3 := hid (((X2.o.setCell (p := ⟨w.heap.size + 1, 1, none⟩) (by show w.heap.size ≤ w.heap.size + 1; omega) (.int .i64 0)).setCell (p := ⟨w.heap.size + 1, 1, none⟩) (by show w.heap.size ≤ w.heap.size + 1; omega) (.int .i64 a)).trans he3)
  clear he3;obtain ⟨c0, c1, c2, c3⟩ := F3.o.cells;obtain ⟨f0, f1, f2, f3⟩ := F3.o.marks;obtain ⟨r0, r1⟩ := F3.o.res
  go_wp2
  have ho := F3.o.o;exact bodyPost_ret (v := .tuple #[.agg #[.int .i64 x, .int .i64 a], .int .i64 0]) (by simp [results, Tryz.results73, go_sem, c0, c1, c2, c3, f0, f1, f2, f3, r0, r1, ho]) rfl ⟨rfl, Ext.setCell (Ext.setCell X3.o (by show w.heap.size ≤ _ + 1 + 1; have := hnn; omega) _) (by show w.heap.size ≤ _ + 1 + 1; have := hnn; omega) _⟩
 | false =>
 simp only [if_false, Bool.false_eq_true] at *
 go_enter Tryz.func73, Tryz.ntmps73
 go_wp2_with fail
 refine (HM.o _).mono ?_;rintro xe w1 ⟨rfl, he1⟩;have F1 := hid (F0.o.ext he1);have X1 := hid (((((Ext.refl w).alloc _).alloc _).alloc _).trans he1);clear he1;obtain ⟨c0, c1, c2, c3⟩ := F1.o.cells;obtain ⟨f0, f1, f2, f3⟩ := F1.o.marks;obtain ⟨r0, r1⟩ := F1.o.res
 go_wp2_with fail
 clear c0 c1 c2 c3 f0 f1 f2 f3 r0 r1;refine (HC.o _).mono ?_;rintro xe w2 ⟨rfl, he2⟩;have F2 := hid (F1.o.ext he2);have X2 := hid (X1.o.trans he2);clear he2;obtain ⟨c0, c1, c2, c3⟩ := F2.o.cells;obtain ⟨f0, f1, f2, f3⟩ := F2.o.marks;obtain ⟨r0, r1⟩ := F2.o.res;have tw := fun u z => (F2.o.a8W u z).cells.2.2.2
 have tv := fun u z => (F2.o.a8W u z).cells.2.2.1
 go_wp2_with fail
 clear c0 c1 c2 c3 f0 f1 f2 f3 r0 r1 tw tv;refine (HD.o _).mono ?_;rintro xe w3 ⟨rfl, he3⟩;have F3 := hid ((F2.o.a8W 0 a).ext he3);have X3 := hid (((X2.o.setCell (p := ⟨w.heap.size + 1, 1, none⟩) (by show w.heap.size ≤ w.heap.size + 1; omega) (.int .i64 0)).setCell (p := ⟨w.heap.size + 1, 1, none⟩) (by show w.heap.size ≤ w.heap.size + 1; omega) (.int .i64 a)).trans he3)
 clear he3;obtain ⟨c0, c1, c2, c3⟩ := F3.o.cells;obtain ⟨f0, f1, f2, f3⟩ := F3.o.marks;obtain ⟨r0, r1⟩ := F3.o.res
 go_wp2
 have ho := F3.o.o;exact bodyPost_ret (v := .tuple #[.agg #[.int .i64 0, .int .i64 0], .int .i64 40]) (by simp [results, Tryz.results73, go_sem, c0, c1, c2, c3, f0, f1, f2, f3, r0, r1, ho]) rfl ⟨rfl, Ext.setCell (Ext.setCell X3.o (by show w.heap.size ≤ _ + 1 + 1; have := hnn; omega) _) (by show w.heap.size ≤ _ + 1 + 1; have := hnn; omega) _⟩
theorem a8X (a : Int) (m : Mom.M) (w : World) (hx : okW (false, a) = true) (hm : Mom.ok m = true) (q : Bool) (hq : Mom.ok (a2q (false, a) m) = q) : Calls Tryz.prog 73 #[wV (false, a), mV m] w fun e w' => e = .returned (.tuple #[mV (if q = true then a2q (false, a) m else (0, 0)), .int .i64 (if q = true then 0 else 40)]) ∧ Ext w w' := by
 have HM := hid (fun w => a1g (false, a) w)
 have HC := hid (fun w => a0p m w)
 have HD := hid (fun w => a0p (a2q (false, a) m) w)
 have hb1 := a5n hx;have hb2 := ok_bd hm;rw [hx] at HM;rw [hm, if_pos rfl] at HC;rw [hq] at HD;obtain ⟨x, y⟩ := m;clear hx hm hq;unfold a2q at *;simp only [if_true, if_false, Bool.false_eq_true, Int.zero_add] at *;obtain ⟨ha1, ha2⟩ := hb1;obtain ⟨hx1, hx2, hy1, hy2⟩ := hb2;have F0 := hid (Fr.new w false a x y);have hnn : w.heap.size ≤ w.heap.size := Nat.le_refl _
 cases q with
 | true =>
  simp only [if_true] at *
  go_enter Tryz.func73, Tryz.ntmps73
  go_wp2_with fail
  refine (HM.o _).mono ?_;rintro xe w1 ⟨rfl, he1⟩;have F1 := hid (F0.o.ext he1);have X1 := hid (((((Ext.refl w).alloc _).alloc _).alloc _).trans he1);clear he1;obtain ⟨c0, c1, c2, c3⟩ := F1.o.cells;obtain ⟨f0, f1, f2, f3⟩ := F1.o.marks;obtain ⟨r0, r1⟩ := F1.o.res
  go_wp2_with fail
  clear c0 c1 c2 c3 f0 f1 f2 f3 r0 r1;refine (HC.o _).mono ?_;rintro xe w2 ⟨rfl, he2⟩;have F2 := hid (F1.o.ext he2);have X2 := hid (X1.o.trans he2);clear he2;obtain ⟨c0, c1, c2, c3⟩ := F2.o.cells;obtain ⟨f0, f1, f2, f3⟩ := F2.o.marks;obtain ⟨r0, r1⟩ := F2.o.res;have tw := fun z => (F2.o.once z).cells.2.2.2
  have tv := fun z => (F2.o.once z).cells.2.2.1
  go_wp2_with fail
  clear c0 c1 c2 c3 f0 f1 f2 f3 r0 r1 tw tv;refine (HD.o _).mono ?_;rintro xe w3 ⟨rfl, he3⟩;have F3 := hid ((F2.o.once (y + a)).ext he3);have X3 := hid ((X2.o.setCell (p := ⟨w.heap.size + 1, 1, none⟩) (by show w.heap.size ≤ w.heap.size + 1; omega) (.int .i64 (y + a))).trans he3)
  clear he3;obtain ⟨c0, c1, c2, c3⟩ := F3.o.cells;obtain ⟨f0, f1, f2, f3⟩ := F3.o.marks;obtain ⟨r0, r1⟩ := F3.o.res
  go_wp2
  have ho := F3.o.o;exact bodyPost_ret (v := .tuple #[.agg #[.int .i64 x, .int .i64 (y + a)], .int .i64 0]) (by simp [results, Tryz.results73, go_sem, c0, c1, c2, c3, f0, f1, f2, f3, r0, r1, ho]) rfl ⟨rfl, Ext.setCell (Ext.setCell X3.o (by show w.heap.size ≤ _ + 1 + 1; have := hnn; omega) _) (by show w.heap.size ≤ _ + 1 + 1; have := hnn; omega) _⟩
 | false =>
 simp only [if_false, Bool.false_eq_true] at *
 go_enter Tryz.func73, Tryz.ntmps73
 go_wp2_with fail
 refine (HM.o _).mono ?_;rintro xe w1 ⟨rfl, he1⟩;have F1 := hid (F0.o.ext he1);have X1 := hid (((((Ext.refl w).alloc _).alloc _).alloc _).trans he1);clear he1;obtain ⟨c0, c1, c2, c3⟩ := F1.o.cells;obtain ⟨f0, f1, f2, f3⟩ := F1.o.marks;obtain ⟨r0, r1⟩ := F1.o.res
 go_wp2_with fail
 clear c0 c1 c2 c3 f0 f1 f2 f3 r0 r1;refine (HC.o _).mono ?_;rintro xe w2 ⟨rfl, he2⟩;have F2 := hid (F1.o.ext he2);have X2 := hid (X1.o.trans he2);clear he2;obtain ⟨c0, c1, c2, c3⟩ := F2.o.cells;obtain ⟨f0, f1, f2, f3⟩ := F2.o.marks;obtain ⟨r0, r1⟩ := F2.o.res;have tw := fun z => (F2.o.once z).cells.2.2.2
 have tv := fun z => (F2.o.once z).cells.2.2.1
 go_wp2_with fail
 clear c0 c1 c2 c3 f0 f1 f2 f3 r0 r1 tw tv;refine (HD.o _).mono ?_;rintro xe w3 ⟨rfl, he3⟩;have F3 := hid ((F2.o.once (y + a)).ext he3);have X3 := hid ((X2.o.setCell (p := ⟨w.heap.size + 1, 1, none⟩) (by show w.heap.size ≤ w.heap.size + 1; omega) (.int .i64 (y + a))).trans he3)
 clear he3;obtain ⟨c0, c1, c2, c3⟩ := F3.o.cells;obtain ⟨f0, f1, f2, f3⟩ := F3.o.marks;obtain ⟨r0, r1⟩ := F3.o.res
 go_wp2
 have ho := F3.o.o;exact bodyPost_ret (v := .tuple #[.agg #[.int .i64 0, .int .i64 0], .int .i64 40]) (by simp [results, Tryz.results73, go_sem, c0, c1, c2, c3, f0, f1, f2, f3, r0, r1, ho]) rfl ⟨rfl, Ext.setCell (Ext.setCell X3.o (by show w.heap.size ≤ _ + 1 + 1; have := hnn; omega) _) (by show w.heap.size ≤ _ + 1 + 1; have := hnn; omega) _⟩
theorem a8d (x : W) (m : Mom.M) (w : World) : Calls Tryz.prog 73 #[wV x, mV m] w fun e w' => e = .returned (.tuple #[mV (a1J x m).1, .int .i64 (a1J x m).2]) ∧ Ext w w' := by
 unfold a1J
 cases hx : okW x with
 | false => exact b2h x m w hx
 | true =>
 rw [if_neg (by simp)]
 cases hm : Mom.ok m with
 | false => exact b2i x m w hx hm
 | true =>
 rw [if_neg (by simp)]
 obtain ⟨s, a⟩ := x
 cases s with
 | true =>
  have h := b0H a m w hx hm _ rfl
  cases hq : Mom.ok (a2q (true, a) m) with
  | true => rw [hq] at h; exact h
  | false => rw [hq] at h; exact h
 | false =>
 have h := a8X a m w hx hm _ rfl
 cases hq : Mom.ok (a2q (false, a) m) with
 | true => rw [hq] at h; exact h
 | false => rw [hq] at h; exact h
end Go.Proofs.YtdkejfjcchlnpaaGreat.Mo
namespace Go.Proofs.YtdkejfjcchlnpaaGreat.Mo
open Go.RowKit Go.Ox Go.Shelf
theorem b0I (x y : W) (w : World) (hx : okW x = false) : Calls Tryz.prog 137 #[wV x, wV y] w fun e w' => e = .returned (.tuple #[wV (false, 0), .int .i64 1]) ∧ Ext w w' := by
 have HM := hid (fun w => a1g x w)
 rw [hx] at HM;obtain ⟨s, a⟩ := x;obtain ⟨t, b⟩ := y;clear hx;have F0 := hid (F3.new w 107 107 107 (.bool s) (.int .i64 a) (.bool t) (.int .i64 b) (.bool false) (.int .i64 0))
 go_enter Tryz.func137, Tryz.ntmps137
 go_wp2_with fail
 refine (HM.o _).mono ?_;rintro xe w1 ⟨rfl, he1⟩;have F1 := hid (F0.o.ext he1);have X1 := hid (((((Ext.refl w).alloc _).alloc _).alloc _).trans he1);clear he1;obtain ⟨c0, c1, c2, c3, c4, c5⟩ := F1.o.cells;obtain ⟨f0, f1, f2, f3, f4, f5⟩ := F1.o.marks
 go_wp2
 have ho := F1.o.o;exact bodyPost_ret (v := .tuple #[.agg #[.bool false, .int .i64 0], .int .i64 1]) (by simp [results, Tryz.results137, go_sem, c0, c1, c2, c3, c4, c5, f0, f1, f2, f3, f4, f5, ho]) rfl ⟨rfl, Ext.setCell (Ext.setCell X1.o (by show w.heap.size ≤ w.heap.size + 1 + 1; omega) _) (by show w.heap.size ≤ w.heap.size + 1 + 1; omega) _⟩
theorem b0J (x y : W) (w : World) (hx : okW x = true) (hy : okW y = false) : Calls Tryz.prog 137 #[wV x, wV y] w fun e w' => e = .returned (.tuple #[wV (false, 0), .int .i64 1]) ∧ Ext w w' := by
 have HM := hid (fun w => a1g x w)
 have HN := hid (fun w => a1g y w)
 rw [hx] at HM;rw [hy] at HN;obtain ⟨s, a⟩ := x;obtain ⟨t, b⟩ := y;clear hx hy;have F0 := hid (F3.new w 107 107 107 (.bool s) (.int .i64 a) (.bool t) (.int .i64 b) (.bool false) (.int .i64 0))
 go_enter Tryz.func137, Tryz.ntmps137
 go_wp2_with fail
 refine (HM.o _).mono ?_;rintro xe w1 ⟨rfl, he1⟩;have F1 := hid (F0.o.ext he1);have X1 := hid (((((Ext.refl w).alloc _).alloc _).alloc _).trans he1);clear he1;obtain ⟨c0, c1, c2, c3, c4, c5⟩ := F1.o.cells;obtain ⟨f0, f1, f2, f3, f4, f5⟩ := F1.o.marks
 go_wp2_with fail
 clear c0 c1 c2 c3 c4 c5 f0 f1 f2 f3 f4 f5;refine (HN.o _).mono ?_;rintro xe w2 ⟨rfl, he2⟩;have F2 := hid (F1.o.ext he2);have X2 := hid (X1.o.trans he2);clear he2;obtain ⟨c0, c1, c2, c3, c4, c5⟩ := F2.o.cells;obtain ⟨f0, f1, f2, f3, f4, f5⟩ := F2.o.marks
 go_wp2
 have ho := F2.o.o;exact bodyPost_ret (v := .tuple #[.agg #[.bool false, .int .i64 0], .int .i64 1]) (by simp [results, Tryz.results137, go_sem, c0, c1, c2, c3, c4, c5, f0, f1, f2, f3, f4, f5, ho]) rfl ⟨rfl, Ext.setCell (Ext.setCell X2.o (by show w.heap.size ≤ w.heap.size + 1 + 1; omega) _) (by show w.heap.size ≤ w.heap.size + 1 + 1; omega) _⟩
theorem b2j (x : W) (b : Int) (w : World) (hx : okW x = true) (hy : okW (true, b) = true) : Calls Tryz.prog 137 #[wV x, wV (true, b)] w fun e w' => e = .returned (.tuple #[wV (true, b), .int .i64 0]) ∧ Ext w w' := by
 have HM := hid (fun w => a1g x w)
 have HN := hid (fun w => a1g (true, b) w)
 have hbx := a5n hx;have hby := a5n hy;rw [hx] at HM;rw [hy] at HN;obtain ⟨s, a⟩ := x;clear hx hy;dsimp only at hbx hby;obtain ⟨ha1, ha2⟩ := hbx;obtain ⟨hb1, hb2⟩ := hby;have F0 := hid (F3.new w 107 107 107 (.bool s) (.int .i64 a) (.bool true) (.int .i64 b) (.bool false) (.int .i64 0))
 go_enter Tryz.func137, Tryz.ntmps137
 go_wp2_with fail
 refine (HM.o _).mono ?_;rintro xe w1 ⟨rfl, he1⟩;have F1 := hid (F0.o.ext he1);have X1 := hid (((((Ext.refl w).alloc _).alloc _).alloc _).trans he1);clear he1;obtain ⟨c0, c1, c2, c3, c4, c5⟩ := F1.o.cells;obtain ⟨f0, f1, f2, f3, f4, f5⟩ := F1.o.marks
 go_wp2_with fail
 clear c0 c1 c2 c3 c4 c5 f0 f1 f2 f3 f4 f5;refine (HN.o _).mono ?_;rintro xe w2 ⟨rfl, he2⟩;have F2 := hid (F1.o.ext he2);have X2 := hid (X1.o.trans he2);clear he2;obtain ⟨c0, c1, c2, c3, c4, c5⟩ := F2.o.cells;obtain ⟨f0, f1, f2, f3, f4, f5⟩ := F2.o.marks
 go_wp2_with fail
 clear c0 c1 c2 c3 c4 c5 f0 f1 f2 f3 f4 f5;refine (HN.o _).mono ?_;rintro xe w3 ⟨rfl, he3⟩;have F3 := hid (F2.o.ext he3);have X3 := hid (X2.o.trans he3);clear he3;obtain ⟨c0, c1, c2, c3, c4, c5⟩ := F3.o.cells;obtain ⟨f0, f1, f2, f3, f4, f5⟩ := F3.o.marks
 go_wp2
 have ho := F3.o.o;exact bodyPost_ret (v := .tuple #[.agg #[.bool true, .int .i64 b], .int .i64 0]) (by simp [results, Tryz.results137, go_sem, c0, c1, c2, c3, c4, c5, f0, f1, f2, f3, f4, f5, ho]) rfl ⟨rfl, Ext.setCell (Ext.setCell X3.o (by show w.heap.size ≤ w.heap.size + 1 + 1; omega) _) (by show w.heap.size ≤ w.heap.size + 1 + 1; omega) _⟩
theorem b2k (x : W) (b : Int) (w : World) (hx : okW x = true) (hy : okW (false, b) = true) (q : Bool) (hq : okW (x.1, x.2 + b) = q) : Calls Tryz.prog 137 #[wV x, wV (false, b)] w fun e w' => e = .returned (.tuple #[wV (if q = true then (x.1, x.2 + b) else (false, 0)), if q = true then .int .i64 0 else .int .i64 1]) ∧ Ext w w' := by
 have HD := hid (fun w => a1g (x.1, x.2 + b) w)
 rw [hq] at HD;clear hq;have HM := hid (fun w => a1g x w)
 have HN := hid (fun w => a1g (false, b) w)
 have hbx := a5n hx;have hby := a5n hy;rw [hx] at HM;rw [hy] at HN;obtain ⟨s, a⟩ := x;clear hx hy;dsimp only at hbx hby;obtain ⟨ha1, ha2⟩ := hbx;obtain ⟨hb1, hb2⟩ := hby;dsimp only at HD ⊢;have F0 := hid (F3.new w 107 107 107 (.bool s) (.int .i64 a) (.bool false) (.int .i64 b) (.bool false) (.int .i64 0))
 cases q with
 | true =>
  simp only [if_true, if_false, Bool.false_eq_true] at *
  go_enter Tryz.func137, Tryz.ntmps137
  go_wp2_with fail
  refine (HM.o _).mono ?_;rintro xe w1 ⟨rfl, he1⟩;have F1 := hid (F0.o.ext he1);have X1 := hid (((((Ext.refl w).alloc _).alloc _).alloc _).trans he1);clear he1;obtain ⟨c0, c1, c2, c3, c4, c5⟩ := F1.o.cells;obtain ⟨f0, f1, f2, f3, f4, f5⟩ := F1.o.marks
  go_wp2_with fail
  clear c0 c1 c2 c3 c4 c5 f0 f1 f2 f3 f4 f5;refine (HN.o _).mono ?_;rintro xe w2 ⟨rfl, he2⟩;have F2 := hid (F1.o.ext he2);have X2 := hid (X1.o.trans he2);clear he2;obtain ⟨c0, c1, c2, c3, c4, c5⟩ := F2.o.cells;obtain ⟨f0, f1, f2, f3, f4, f5⟩ := F2.o.marks;have tw := fun z u => ((F2.o.a8k z).a8l u).cells.2.2.1
  have tv := fun z u => ((F2.o.a8k z).a8l u).cells.2.2.2.1
  go_wp2_with fail
  clear c0 c1 c2 c3 c4 c5 f0 f1 f2 f3 f4 f5 tw tv;refine (HD.o _).mono ?_;rintro xe w3 ⟨rfl, he3⟩;have F3 := hid (((F2.o.a8k (.bool s)).a8l (.int .i64 (a + b))).ext he3);have X3 := hid (((X2.o.setCell (p := ⟨w.heap.size + 1, 0, none⟩) (by show w.heap.size ≤ w.heap.size + 1; omega) (.bool s)).setCell (p := ⟨w.heap.size + 1, 1, none⟩) (by show w.heap.size ≤ w.heap.size + 1; omega) (.int .i64 (a + b))).trans he3)
  clear he3;obtain ⟨c0, c1, c2, c3, c4, c5⟩ := F3.o.cells;obtain ⟨f0, f1, f2, f3, f4, f5⟩ := F3.o.marks
  go_wp2
  have ho := F3.o.o;exact bodyPost_ret (v := .tuple #[.agg #[.bool s, .int .i64 (a + b)], .int .i64 0]) (by simp [results, Tryz.results137, go_sem, c0, c1, c2, c3, c4, c5, f0, f1, f2, f3, f4, f5, ho]) rfl ⟨rfl, Ext.setCell (Ext.setCell X3.o (by show w.heap.size ≤ w.heap.size + 1 + 1; omega) _) (by show w.heap.size ≤ w.heap.size + 1 + 1; omega) _⟩
 | false =>
 simp only [if_true, if_false, Bool.false_eq_true] at *
 go_enter Tryz.func137, Tryz.ntmps137
 go_wp2_with fail
 refine (HM.o _).mono ?_;rintro xe w1 ⟨rfl, he1⟩;have F1 := hid (F0.o.ext he1);have X1 := hid (((((Ext.refl w).alloc _).alloc _).alloc _).trans he1);clear he1;obtain ⟨c0, c1, c2, c3, c4, c5⟩ := F1.o.cells;obtain ⟨f0, f1, f2, f3, f4, f5⟩ := F1.o.marks
 go_wp2_with fail
 clear c0 c1 c2 c3 c4 c5 f0 f1 f2 f3 f4 f5;refine (HN.o _).mono ?_;rintro xe w2 ⟨rfl, he2⟩;have F2 := hid (F1.o.ext he2);have X2 := hid (X1.o.trans he2);clear he2;obtain ⟨c0, c1, c2, c3, c4, c5⟩ := F2.o.cells;obtain ⟨f0, f1, f2, f3, f4, f5⟩ := F2.o.marks;have tw := fun z u => ((F2.o.a8k z).a8l u).cells.2.2.1
 have tv := fun z u => ((F2.o.a8k z).a8l u).cells.2.2.2.1
 go_wp2_with fail
 clear c0 c1 c2 c3 c4 c5 f0 f1 f2 f3 f4 f5 tw tv;refine (HD.o _).mono ?_;rintro xe w3 ⟨rfl, he3⟩;have F3 := hid (((F2.o.a8k (.bool s)).a8l (.int .i64 (a + b))).ext he3);have X3 := hid (((X2.o.setCell (p := ⟨w.heap.size + 1, 0, none⟩) (by show w.heap.size ≤ w.heap.size + 1; omega) (.bool s)).setCell (p := ⟨w.heap.size + 1, 1, none⟩) (by show w.heap.size ≤ w.heap.size + 1; omega) (.int .i64 (a + b))).trans he3)
 clear he3;obtain ⟨c0, c1, c2, c3, c4, c5⟩ := F3.o.cells;obtain ⟨f0, f1, f2, f3, f4, f5⟩ := F3.o.marks
 go_wp2
 have ho := F3.o.o;exact bodyPost_ret (v := .tuple #[.agg #[.bool false, .int .i64 0], .int .i64 1]) (by simp [results, Tryz.results137, go_sem, c0, c1, c2, c3, c4, c5, f0, f1, f2, f3, f4, f5, ho]) rfl ⟨rfl, Ext.setCell (Ext.setCell X3.o (by show w.heap.size ≤ w.heap.size + 1 + 1; omega) _) (by show w.heap.size ≤ w.heap.size + 1 + 1; omega) _⟩
theorem b2l (x y : W) (w : World) : Calls Tryz.prog 137 #[wV x, wV y] w fun e w' => e = .returned (.tuple #[wV (b0G x y).1, .int .i64 (b0G x y).2]) ∧ Ext w w' := by
 unfold b0G
 cases hx : okW x with
 | false => rw [if_pos (.inl rfl)]; exact b0I x y w hx
 | true =>
 cases hy : okW y with
 | false => rw [if_pos (.inr rfl)]; exact b0J x y w hx hy
 | true =>
 rw [if_neg (by simp)]
 unfold b2g;obtain ⟨t, b⟩ := y
 cases t with
 | true => rw [if_pos rfl, hy, if_neg (by simp)]; exact b2j x b w hx hy
 | false =>
 have h := b2k x b w hx hy _ rfl;have e : (if ((false, b) : W).1 = true then ((false, b) : W) else (x.1, x.2 + ((false, b) : W).2)) = (x.1, x.2 + b) := by simp
 rw [e]
 cases hq : okW (x.1, x.2 + b) with
 | true => rw [hq] at h; exact h
 | false => rw [hq] at h; exact h
end Go.Proofs.YtdkejfjcchlnpaaGreat.Mo
