/-
  LaNamed, LaOp, packed: what the claim needs of them.
-/
import Derived.Test.YtpmgmiiidfconaaGreatDoorPz22
import Derived.Test.YtpmgmiiidfconaaGreatDoorPz23
import Derived.Test.YtpmgmiiidfconaaGreatDoorPz24
set_option linter.unusedVariables false
set_option linter.unusedSimpArgs false
namespace Go.Proofs.YtpmgmiiidfconaaGreatDoor
open Go.RowKit Go.Ox Go.Ox.Gr Go.Ox.Sc Go.Ox.La Go.Shelf
/-- a name's number: of a body's node (b), or of one outside (n) -/
def nmC (body : Bool) : UInt8 := if body = true then 98 else 110
def nmX (x : W) (body : Bool) : W := if x.head? = some (nmC body) then x.tail else x
def named1 (x : W) (body : Bool) : Int × Bool := ((wnB (nmX x body)).1, decide (x.head? = some (nmC body)) && (wnB (nmX x body)).2)
attribute [local irreducible] RE OE GlT
set_option maxRecDepth 100000 in
set_option maxHeartbeats 8000000 in
theorem wnamed_any (w0 : World) (p : Nat) (l : List W) (bad body : Bool) (w : World) (h : WsR 60 w0 w p l bad) (hw : ∀ x ∈ l, x.length ≤ 1000000) :
    Calls Tryz.prog 100 #[.pointer (some ⟨p, 0, none⟩), .bool body] w fun e w' => e = .returned (.int .i64 (named1 (l.headD []) body).1) ∧ WsR 60 w0 w' p l.tail (bad || !(named1 (l.headD []) body).2) ∧ ExtQ (fun k => k = p) w w' := by
  have HC := Lib.hid (wnext_any w0 p l bad w h)
  have HXL := Lib.hid (show (l.headD []).length ≤ 1000000 from by cases l with | nil => simp | cons x r => exact hw x (List.mem_cons_self ..))
  have HE := Lib.hid (show l.isEmpty = true → decide ((l.headD []).head? = some (nmC body)) = false from fun h => by cases l with | nil => rfl | cons x r => simp at h)
  generalize l.headD [] = x at *
  generalize l.isEmpty = em at *
  generalize l.tail = tl at *
  have HP := Lib.hid (cutPrefix_any x (nmC body))
  have HNX := Lib.hid (show nmX x body = (if x.head? = some (nmC body) then x.tail else x) from rfl)
  rw [← HNX.out] at HP
  have HD := Lib.hid (fun w => wnum_any (nmX x body) w (by
    have := HXL.out
    unfold nmX
    split
    · rw [List.length_tail]; omega
    · exact this))
  obtain ⟨z, hz⟩ : ∃ z, named1 x body = z := ⟨_, rfl⟩
  have HZ := Lib.hid (show z = ((wnB (nmX x body)).1, decide (x.head? = some (nmC body)) && (wnB (nmX x body)).2) from hz.symm)
  rw [hz]
  generalize nmX x body = y at *
  generalize decide (x.head? = some (nmC body)) = is at *
  generalize wnB y = nb at *
  obtain ⟨n, ok⟩ := nb
  obtain ⟨z1, z2⟩ := z
  obtain ⟨rfl, rfl⟩ : z1 = n ∧ z2 = (is && ok) := by have := HZ.out; injection this with h1 h2; exact ⟨h1, h2⟩
  clear h hw hz HZ
  cases body with
  | true =>
    have HP2 := Lib.hid (fun w => (show Calls Tryz.prog 128 #[strV x, .string ⟨#[98]⟩] w _ from HP.out w))
    go_enter Tryz.func100, Tryz.ntmps100
    go_wp2_with fail
    refine HC.out.mono ?_
    rintro e w1 ⟨rfl, hh, hq1⟩
    have HQ1 := Lib.hid hq1
    have HH := Lib.hid hh
    clear hq1 hh
    go_wp2_with fail
    refine (HP2.out _).mono ?_
    rintro e w2 ⟨rfl, rfl⟩
    go_wp2_with fail
    refine (HD.out _).mono ?_
    rintro e w3 ⟨rfl, rfl⟩
    obtain ⟨hlow, hx, A, c, hr, hb⟩ := HH.out
    have c1 : w2.cell? ⟨p, 1, none⟩ = some (.bool (bad || em)) := (hb.cell 1).trans rfl
    have f1 : w2.frozen? ⟨p, 1, none⟩ = false := hb.frozen 1
    have HB := Lib.hid hb
    have HR := Lib.hid hr
    obtain ⟨bm, hbm⟩ : ∃ bm, (bad || em) = bm := ⟨_, rfl⟩
    rw [hbm] at c1 HB
    obtain ⟨z, hz⟩ : ∃ z, (bad || !(is && ok)) = z := ⟨_, rfl⟩
    have HBE := Lib.hid (show (bm || (!is || !ok)) = z from by
      rw [← hz, ← hbm]
      cases em with
      | false => cases bad <;> cases is <;> cases ok <;> rfl
      | true => rw [show is = false from HE.out rfl]; cases bad <;> cases ok <;> rfl)
    have HZE := Lib.hid hz
    have hq : ExtQ (fun k => k = p) w2 (w2.setCell ⟨p, 1, none⟩ (.bool z)) := ExtQ.setCell (Q := fun k => k = p) (ExtQ.refl _ _) (p := ⟨p, 1, none⟩) rfl _
    have HQ2 := Lib.hid (HQ1.out.trans hq)
    have HF := Lib.hid (show WsR 60 w0 (w2.setCell ⟨p, 1, none⟩ (.bool z)) p tl z from ⟨hlow, hx.andQ hq (fun k hk => by have h1 : k = p := hk; omega), A, c, hr, by simpa using hb.set_ 1 (.bool z)⟩)
    clear hlow hx hr hb hz hbm hq HE
    cases bm <;> cases is <;> cases ok
    all_goals
      cases z <;> first | (exact absurd HBE.out (by decide)) | skip
    all_goals
      go_wp2
      go_ret
      exact ⟨rfl, by rw [HZE.out]; exact HF.out, HQ2.out⟩
  | false =>
    have HP2 := Lib.hid (fun w => (show Calls Tryz.prog 128 #[strV x, .string ⟨#[110]⟩] w _ from HP.out w))
    go_enter Tryz.func100, Tryz.ntmps100
    go_wp2_with fail
    refine HC.out.mono ?_
    rintro e w1 ⟨rfl, hh, hq1⟩
    have HQ1 := Lib.hid hq1
    have HH := Lib.hid hh
    clear hq1 hh
    go_wp2_with fail
    refine (HP2.out _).mono ?_
    rintro e w2 ⟨rfl, rfl⟩
    go_wp2_with fail
    refine (HD.out _).mono ?_
    rintro e w3 ⟨rfl, rfl⟩
    obtain ⟨hlow, hx, A, c, hr, hb⟩ := HH.out
    have c1 : w2.cell? ⟨p, 1, none⟩ = some (.bool (bad || em)) := (hb.cell 1).trans rfl
    have f1 : w2.frozen? ⟨p, 1, none⟩ = false := hb.frozen 1
    have HB := Lib.hid hb
    have HR := Lib.hid hr
    obtain ⟨bm, hbm⟩ : ∃ bm, (bad || em) = bm := ⟨_, rfl⟩
    rw [hbm] at c1 HB
    obtain ⟨z, hz⟩ : ∃ z, (bad || !(is && ok)) = z := ⟨_, rfl⟩
    have HBE := Lib.hid (show (bm || (!is || !ok)) = z from by
      rw [← hz, ← hbm]
      cases em with
      | false => cases bad <;> cases is <;> cases ok <;> rfl
      | true => rw [show is = false from HE.out rfl]; cases bad <;> cases ok <;> rfl)
    have HZE := Lib.hid hz
    have hq : ExtQ (fun k => k = p) w2 (w2.setCell ⟨p, 1, none⟩ (.bool z)) := ExtQ.setCell (Q := fun k => k = p) (ExtQ.refl _ _) (p := ⟨p, 1, none⟩) rfl _
    have HQ2 := Lib.hid (HQ1.out.trans hq)
    have HF := Lib.hid (show WsR 60 w0 (w2.setCell ⟨p, 1, none⟩ (.bool z)) p tl z from ⟨hlow, hx.andQ hq (fun k hk => by have h1 : k = p := hk; omega), A, c, hr, by simpa using hb.set_ 1 (.bool z)⟩)
    clear hlow hx hr hb hz hbm hq HE
    cases bm <;> cases is <;> cases ok
    all_goals
      cases z <;> first | (exact absurd HBE.out (by decide)) | skip
    all_goals
      go_wp2
      go_ret
      exact ⟨rfl, by rw [HZE.out]; exact HF.out, HQ2.out⟩
end Go.Proofs.YtpmgmiiidfconaaGreatDoor
set_option linter.unusedVariables false
set_option linter.unusedSimpArgs false
namespace Go.Proofs.YtpmgmiiidfconaaGreatDoor
open Go.RowKit Go.Ox Go.Ox.Gr Go.Ox.Sc Go.Ox.La Go.Shelf
def opsAt (i : Nat) : W := opsL.getD i []
def fnsAt (i : Nat) : W := fnsL.getD i []
theorem ops_at {w : World} (h : OpsT w) (i : Nat) (hi : i < 12) : w.cell? ⟨0, i, none⟩ = some (strV (opsAt i)) := h.at_ hi
theorem fns_at {w : World} (h : FnsT w) (i : Nat) (hi : i < 24) : w.cell? ⟨1, i, none⟩ = some (strV (fnsAt i)) := h.at_ hi
attribute [local irreducible] RE OE GlT
abbrev opsA : Value := .agg #[strV (opsAt 0), strV (opsAt 1), strV (opsAt 2), strV (opsAt 3), strV (opsAt 4), strV (opsAt 5), strV (opsAt 6), strV (opsAt 7), strV (opsAt 8), strV (opsAt 9), strV (opsAt 10), strV (opsAt 11)]
theorem run_arr {T n : Nat} (cs : Array Value) (hT : Tryz.prog.underlying T = some (.array n 9)) (j : Nat) (hj : j < n) (v : Value) (h : cs[j]? = some v) (w : World) : (Instr.index T (.agg cs) (.int .i64 (j : Int))).run Tryz.prog w = .ok v w := by
  have h0 : (0 : Int) ≤ (j : Int) := by omega
  have h1 : (j : Int) < (n : Int) := by omega
  have h2 := Tryz.isAgg9 w
  have h3 := Tryz.sizeOf9 w
  simp [Instr.index, asIntOf, run_underlying hT, h0, h1, part, h2, h3, h]
  omega
theorem run_ops (j : Nat) (hj : j < 12) (w : World) : (Instr.index 98 opsA (.int .i64 (j : Int))).run Tryz.prog w = .ok (strV (opsAt j)) w := by
  refine run_arr _ Tryz.underlying98 j hj _ ?_ w
  match j, hj with
  | 0, _ => rfl
  | 1, _ => rfl
  | 2, _ => rfl
  | 3, _ => rfl
  | 4, _ => rfl
  | 5, _ => rfl
  | 6, _ => rfl
  | 7, _ => rfl
  | 8, _ => rfl
  | 9, _ => rfl
  | 10, _ => rfl
  | 11, _ => rfl
  | n + 12, h => omega
attribute [local irreducible] opsAt fnsAt
set_option maxRecDepth 100000 in
set_option maxHeartbeats 8000000 in
theorem lopOf_any (x : W) (o : Nat) (w : World) (h1 : OpsT w) (ho : o < 12) (hx : opsAt o = x) (hne : x ≠ []) (hb : ∀ j, j < o → opsAt j ≠ x) :
    Calls Tryz.prog 126 #[strV x] w fun e w' => e = .returned (.int .i64 (o : Int)) ∧ w = w' := by
  have g0 := ops_at h1 0 (by decide)
  have g1 := ops_at h1 1 (by decide)
  have g2 := ops_at h1 2 (by decide)
  have g3 := ops_at h1 3 (by decide)
  have g4 := ops_at h1 4 (by decide)
  have g5 := ops_at h1 5 (by decide)
  have g6 := ops_at h1 6 (by decide)
  have g7 := ops_at h1 7 (by decide)
  have g8 := ops_at h1 8 (by decide)
  have g9 := ops_at h1 9 (by decide)
  have g10 := ops_at h1 10 (by decide)
  have g11 := ops_at h1 11 (by decide)
  have HO := Lib.hid ho
  have HX := Lib.hid hx
  have HNE := Lib.hid hne
  have HB := Lib.hid hb
  clear h1 ho hx hne hb
  go_enter Tryz.func126, Tryz.ntmps126
  go_upto_region 1 with fail
  go_wp2
  have HG := Lib.hid (fun j hj w => run_ops j hj w)
  clear g0 g1 g2 g3 g4 g5 g6 g7 g8 g9 g10 g11
  go_loopw [6] (fun iv wr => ∃ j : Nat, j ≤ o ∧ iv = .int .i64 (j : Int) ∧ w = wr) (fun iv _ => 12 - (intOf iv).toNat)
  case atStart => exact ⟨0, Nat.zero_le _, rfl, rfl⟩
  case round =>
    obtain ⟨j, hj, rfl, rfl⟩ := hrel
    have hj12 : j < 12 := by have := HO.out; omega
    have q1 : (j : Int) < 12 := by omega
    have hg := HG.out j hj12 w
    by_cases h : j = o
    · subst h
      rw [HX.out] at hg
      have b1 := bs_t (x := x) (y := x) rfl
      have b2 := bs_f (x := x) (y := []) HNE.out
      have b3 := bs_n (x := x) (y := []) HNE.out
      have b4 : x.isEmpty = false := by cases x with | nil => exact absurd rfl HNE.out | cons _ _ => rfl
      have b5 := HNE.out
      clear hj
      go_wp2
      go_ret
      exact ⟨rfl, rfl⟩
    · have b0 := HB.out j (by omega)
      have b1 := bs_f b0
      have b2 := bs_n b0
      have HLT := Lib.hid (show j < o by omega)
      generalize opsAt j = y at *
      clear h hj
      go_wp2
      exact ⟨⟨j + 1, HLT.out, by go_num, by first | trivial | rfl⟩, by have := HLT.out; have := HO.out; simp [intOf]; omega⟩
def betw (k of : Int) : Bool := decide (fk k = of)
set_option maxRecDepth 100000 in
set_option maxHeartbeats 2000000 in
theorem lbetween_1 (k : Int) (h0 : 0 ≤ k) (h23 : k ≤ 23) (w : World) : Calls Tryz.prog 150 #[.int .i64 k, .int .i64 1] w fun e w' => e = .returned (.bool (betw k 1)) ∧ Ext w w' := by
  have HX := Lib.hid ((Ext.refl w).alloc (.cells #[.int .i64 0, .int .i64 8, .int .i64 12, .int .i64 15, .int .i64 19, .int .i64 23] 203))
  have hb := Blk.new w 203 #[.int .i64 0, .int .i64 8, .int .i64 12, .int .i64 15, .int .i64 19, .int .i64 23]
  have c0 : _ = some (Value.int .i64 0) := (hb.cell 0).trans rfl
  have c1 : _ = some (Value.int .i64 8) := (hb.cell 1).trans rfl
  clear hb
  by_cases h1 : 0 < k
  · by_cases h2 : k ≤ 8
    · have HR := Lib.hid (show betw k 1 = true from by unfold betw fk; rw [decide_eq_true_eq]; repeat' split <;> omega)
      generalize betw k 1 = r at *
      clear h0 h23
      go_enter Tryz.func150, Tryz.ntmps150
      go_wp2
      go_ret
      exact ⟨by rw [HR.out]; rfl, HX.out⟩
    · have HR := Lib.hid (show betw k 1 = false from by unfold betw fk; rw [decide_eq_false_iff_not]; repeat' split <;> omega)
      generalize betw k 1 = r at *
      clear h0 h23
      go_enter Tryz.func150, Tryz.ntmps150
      go_wp2
      go_ret
      exact ⟨by rw [HR.out]; rfl, HX.out⟩
  · have HR := Lib.hid (show betw k 1 = false from by unfold betw fk; rw [decide_eq_false_iff_not]; repeat' split <;> omega)
    generalize betw k 1 = r at *
    clear h0 h23
    go_enter Tryz.func150, Tryz.ntmps150
    go_wp2
    go_ret
    exact ⟨by rw [HR.out]; rfl, HX.out⟩
set_option maxRecDepth 100000 in
set_option maxHeartbeats 2000000 in
theorem lbetween_2 (k : Int) (h0 : 0 ≤ k) (h23 : k ≤ 23) (w : World) : Calls Tryz.prog 150 #[.int .i64 k, .int .i64 2] w fun e w' => e = .returned (.bool (betw k 2)) ∧ Ext w w' := by
  have HX := Lib.hid ((Ext.refl w).alloc (.cells #[.int .i64 0, .int .i64 8, .int .i64 12, .int .i64 15, .int .i64 19, .int .i64 23] 203))
  have hb := Blk.new w 203 #[.int .i64 0, .int .i64 8, .int .i64 12, .int .i64 15, .int .i64 19, .int .i64 23]
  have c0 : _ = some (Value.int .i64 8) := (hb.cell 1).trans rfl
  have c1 : _ = some (Value.int .i64 12) := (hb.cell 2).trans rfl
  clear hb
  by_cases h1 : 8 < k
  · by_cases h2 : k ≤ 12
    · have HR := Lib.hid (show betw k 2 = true from by unfold betw fk; rw [decide_eq_true_eq]; repeat' split <;> omega)
      generalize betw k 2 = r at *
      clear h0 h23
      go_enter Tryz.func150, Tryz.ntmps150
      go_wp2
      go_ret
      exact ⟨by rw [HR.out]; rfl, HX.out⟩
    · have HR := Lib.hid (show betw k 2 = false from by unfold betw fk; rw [decide_eq_false_iff_not]; repeat' split <;> omega)
      generalize betw k 2 = r at *
      clear h0 h23
      go_enter Tryz.func150, Tryz.ntmps150
      go_wp2
      go_ret
      exact ⟨by rw [HR.out]; rfl, HX.out⟩
  · have HR := Lib.hid (show betw k 2 = false from by unfold betw fk; rw [decide_eq_false_iff_not]; repeat' split <;> omega)
    generalize betw k 2 = r at *
    clear h0 h23
    go_enter Tryz.func150, Tryz.ntmps150
    go_wp2
    go_ret
    exact ⟨by rw [HR.out]; rfl, HX.out⟩
set_option maxRecDepth 100000 in
set_option maxHeartbeats 2000000 in
theorem lbetween_3 (k : Int) (h0 : 0 ≤ k) (h23 : k ≤ 23) (w : World) : Calls Tryz.prog 150 #[.int .i64 k, .int .i64 3] w fun e w' => e = .returned (.bool (betw k 3)) ∧ Ext w w' := by
  have HX := Lib.hid ((Ext.refl w).alloc (.cells #[.int .i64 0, .int .i64 8, .int .i64 12, .int .i64 15, .int .i64 19, .int .i64 23] 203))
  have hb := Blk.new w 203 #[.int .i64 0, .int .i64 8, .int .i64 12, .int .i64 15, .int .i64 19, .int .i64 23]
  have c0 : _ = some (Value.int .i64 12) := (hb.cell 2).trans rfl
  have c1 : _ = some (Value.int .i64 15) := (hb.cell 3).trans rfl
  clear hb
  by_cases h1 : 12 < k
  · by_cases h2 : k ≤ 15
    · have HR := Lib.hid (show betw k 3 = true from by unfold betw fk; rw [decide_eq_true_eq]; repeat' split <;> omega)
      generalize betw k 3 = r at *
      clear h0 h23
      go_enter Tryz.func150, Tryz.ntmps150
      go_wp2
      go_ret
      exact ⟨by rw [HR.out]; rfl, HX.out⟩
    · have HR := Lib.hid (show betw k 3 = false from by unfold betw fk; rw [decide_eq_false_iff_not]; repeat' split <;> omega)
      generalize betw k 3 = r at *
      clear h0 h23
      go_enter Tryz.func150, Tryz.ntmps150
      go_wp2
      go_ret
      exact ⟨by rw [HR.out]; rfl, HX.out⟩
  · have HR := Lib.hid (show betw k 3 = false from by unfold betw fk; rw [decide_eq_false_iff_not]; repeat' split <;> omega)
    generalize betw k 3 = r at *
    clear h0 h23
    go_enter Tryz.func150, Tryz.ntmps150
    go_wp2
    go_ret
    exact ⟨by rw [HR.out]; rfl, HX.out⟩
set_option maxRecDepth 100000 in
set_option maxHeartbeats 2000000 in
theorem lbetween_4 (k : Int) (h0 : 0 ≤ k) (h23 : k ≤ 23) (w : World) : Calls Tryz.prog 150 #[.int .i64 k, .int .i64 4] w fun e w' => e = .returned (.bool (betw k 4)) ∧ Ext w w' := by
  have HX := Lib.hid ((Ext.refl w).alloc (.cells #[.int .i64 0, .int .i64 8, .int .i64 12, .int .i64 15, .int .i64 19, .int .i64 23] 203))
  have hb := Blk.new w 203 #[.int .i64 0, .int .i64 8, .int .i64 12, .int .i64 15, .int .i64 19, .int .i64 23]
  have c0 : _ = some (Value.int .i64 15) := (hb.cell 3).trans rfl
  have c1 : _ = some (Value.int .i64 19) := (hb.cell 4).trans rfl
  clear hb
  by_cases h1 : 15 < k
  · by_cases h2 : k ≤ 19
    · have HR := Lib.hid (show betw k 4 = true from by unfold betw fk; rw [decide_eq_true_eq]; repeat' split <;> omega)
      generalize betw k 4 = r at *
      clear h0 h23
      go_enter Tryz.func150, Tryz.ntmps150
      go_wp2
      go_ret
      exact ⟨by rw [HR.out]; rfl, HX.out⟩
    · have HR := Lib.hid (show betw k 4 = false from by unfold betw fk; rw [decide_eq_false_iff_not]; repeat' split <;> omega)
      generalize betw k 4 = r at *
      clear h0 h23
      go_enter Tryz.func150, Tryz.ntmps150
      go_wp2
      go_ret
      exact ⟨by rw [HR.out]; rfl, HX.out⟩
  · have HR := Lib.hid (show betw k 4 = false from by unfold betw fk; rw [decide_eq_false_iff_not]; repeat' split <;> omega)
    generalize betw k 4 = r at *
    clear h0 h23
    go_enter Tryz.func150, Tryz.ntmps150
    go_wp2
    go_ret
    exact ⟨by rw [HR.out]; rfl, HX.out⟩
set_option maxRecDepth 100000 in
set_option maxHeartbeats 2000000 in
theorem lbetween_5 (k : Int) (h0 : 0 ≤ k) (h23 : k ≤ 23) (w : World) : Calls Tryz.prog 150 #[.int .i64 k, .int .i64 5] w fun e w' => e = .returned (.bool (betw k 5)) ∧ Ext w w' := by
  have HX := Lib.hid ((Ext.refl w).alloc (.cells #[.int .i64 0, .int .i64 8, .int .i64 12, .int .i64 15, .int .i64 19, .int .i64 23] 203))
  have hb := Blk.new w 203 #[.int .i64 0, .int .i64 8, .int .i64 12, .int .i64 15, .int .i64 19, .int .i64 23]
  have c0 : _ = some (Value.int .i64 19) := (hb.cell 4).trans rfl
  have c1 : _ = some (Value.int .i64 23) := (hb.cell 5).trans rfl
  clear hb
  by_cases h1 : 19 < k
  · by_cases h2 : k ≤ 23
    · have HR := Lib.hid (show betw k 5 = true from by unfold betw fk; rw [decide_eq_true_eq]; repeat' split <;> omega)
      generalize betw k 5 = r at *
      clear h0 h23
      go_enter Tryz.func150, Tryz.ntmps150
      go_wp2
      go_ret
      exact ⟨by rw [HR.out]; rfl, HX.out⟩
    · have HR := Lib.hid (show betw k 5 = false from by unfold betw fk; rw [decide_eq_false_iff_not]; repeat' split <;> omega)
      generalize betw k 5 = r at *
      clear h0 h23
      go_enter Tryz.func150, Tryz.ntmps150
      go_wp2
      go_ret
      exact ⟨by rw [HR.out]; rfl, HX.out⟩
  · have HR := Lib.hid (show betw k 5 = false from by unfold betw fk; rw [decide_eq_false_iff_not]; repeat' split <;> omega)
    generalize betw k 5 = r at *
    clear h0 h23
    go_enter Tryz.func150, Tryz.ntmps150
    go_wp2
    go_ret
    exact ⟨by rw [HR.out]; rfl, HX.out⟩
theorem lbetween_any (k of : Int) (h0 : 0 ≤ k) (h23 : k ≤ 23) (h1 : 1 ≤ of) (h5 : of ≤ 5) (w : World) : Calls Tryz.prog 150 #[.int .i64 k, .int .i64 of] w fun e w' => e = .returned (.bool (betw k of)) ∧ Ext w w' := by
  rcases (show of = 1 ∨ of = 2 ∨ of = 3 ∨ of = 4 ∨ of = 5 by omega) with rfl | rfl | rfl | rfl | rfl
  · exact lbetween_1 k h0 h23 w
  · exact lbetween_2 k h0 h23 w
  · exact lbetween_3 k h0 h23 w
  · exact lbetween_4 k h0 h23 w
  · exact lbetween_5 k h0 h23 w
end Go.Proofs.YtpmgmiiidfconaaGreatDoor
