/-
  The walks of moment.Read and of its reference.
-/
import Derived.Test.YtacpomonidmjaaaMomRef
import Derived.Test.YtacpomonidmjaaaNumRead
namespace Go.Proofs.Ytacpomonidmjaaa.Mo
open Go.RowKit Go.Ox
set_option linter.unusedSimpArgs false
set_option linter.unusedVariables false

/-- what is read -/
def readM (s : Num.St) : Mom.M := (((Num.numP s).2 : Nat), ((Num.numP (Num.numP s).1).2 : Nat))
def readS (s : Num.St) : Num.St := (Num.numP (Num.numP s).1).1
def readE (s : Num.St) : Int := if (readS s).bad = true then 10 else if Mom.ok (readM s) = true then 0 else 40
def readV (s : Num.St) : Mom.M := if (readS s).bad = true then (0, 0) else if Mom.ok (readM s) = true then readM s else (0, 0)

def ReadPost (K : Nat → Prop) (T : TypeId) (g : Nat) (s : Num.St) (w : World) (e : Ending) (w' : World) : Prop := e = .returned (.tuple #[mV (readV s), .int .i64 (readE s)]) ∧ XR K T g (readS s).l (readS s).bad w w'
section
variable {K : Nat → Prop} {T : TypeId} {g : Nat} {s : Num.St} {w w' : World}
theorem ReadPost.bad (h : (readS s).bad = true) (he : XR K T g (readS s).l (readS s).bad w w') : ReadPost K T g s w (.returned (.tuple #[.agg #[.int .i64 0, .int .i64 0], .int .i64 10])) w' := by
  unfold ReadPost; refine ⟨?_, he⟩; unfold readE readV; rw [if_pos h, if_pos h]
theorem ReadPost.no (h : (readS s).bad = false) (h2 : Mom.ok (readM s) = false) (he : XR K T g (readS s).l (readS s).bad w w') : ReadPost K T g s w (.returned (.tuple #[.agg #[.int .i64 0, .int .i64 0], .int .i64 40])) w' := by
  unfold ReadPost; refine ⟨?_, he⟩; unfold readE readV; rw [h, h2]; rfl
theorem ReadPost.yes {x y : Nat} (h : (readS s).bad = false) (h2 : Mom.ok (readM s) = true) (hm : readM s = ((x : Int), (y : Int))) (he : XR K T g (readS s).l (readS s).bad w w') : ReadPost K T g s w (.returned (.tuple #[.agg #[.int .i64 (x : Int), .int .i64 (y : Int)], .int .i64 0])) w' := by
  unfold ReadPost; refine ⟨?_, he⟩; unfold readE readV; rw [h, h2, hm]; rfl
end
variable {K : Nat → Prop}

set_option maxRecDepth 100000 in
set_option maxHeartbeats 1000000 in
theorem mread_any (g : Nat) (s : Num.St) (w : World) (h0 : NR K w g s) (hl : s.l.length ≤ 1000000) (hK : ∀ b, K b → b < w.heap.size) :
    Calls Try.prog 50 #[.pointer (some ⟨g, 0, none⟩)] w (ReadPost K 99 g s w) := by
  have hg := h0.lt
  have HKG := Lib.hid (And.intro hK hg)
  have HN1 := Lib.hid (fun w (h : NR K w g s) => num_any g s w h hl)
  have HN2 := Lib.hid (fun w (h : NR K w g (Num.numP s).1) => num_any g (Num.numP s).1 w h (Nat.le_trans (Num.numP_len s) hl))
  have HP1 := Lib.hid (fun w' h he => @ReadPost.bad K 99 g s w w' h he)
  have HP2 := Lib.hid (fun w' h h2 he => @ReadPost.no K 99 g s w w' h h2 he)
  have HP3 := Lib.hid (fun w' x y h h2 hm he => @ReadPost.yes K 99 g s w w' x y h h2 hm he)
  have hM : readM s = ((((Num.numP s).2 : Nat) : Int), (((Num.numP (Num.numP s).1).2 : Nat) : Int)) := rfl
  have hS : readS s = (Num.numP (Num.numP s).1).1 := rfl
  have H0 := Lib.hid (h0.ext ((Ext.refl w).alloc (.cells #[.int .i64 0, .int .i64 0] 24)))
  have HG0 := Lib.hid (ExtG.of (g := g) ((Ext.refl w).alloc (.cells #[.int .i64 0, .int .i64 0] 24)))
  have HB0 := Lib.hid (Blk.new w 24 #[.int .i64 0, .int .i64 0])
  generalize (Num.numP s).1 = s1 at *
  generalize (Num.numP s).2 = x at *
  rw [← hS] at HN2
  generalize readS s = s2 at *
  generalize (Num.numP s1).2 = y at *
  have HM := Lib.hid hM
  clear h0 hM hS hl hK
  have hne : w.heap.size ≠ g := by omega
  have HNE := Lib.hid hne
  clear hne
  go_enter Try.func50, Try.ntmps50
  go_wp2_with fail
  refine (HN1.out _ H0.out).mono ?_
  rintro e w1 ⟨rfl, hN1, he1⟩
  have HX1 := Lib.hid he1
  have HS1 := Lib.hid hN1
  clear he1 hN1
  go_wp2_with fail
  refine (HN2.out _ HS1.out).mono ?_
  rintro e w2 ⟨rfl, hN2, he2⟩
  have HX2 := Lib.hid (HX1.out.trans he2)
  have HS2 := Lib.hid hN2
  clear he2 hN2
  have hlt2 := (HB0.out.extG HX2.out HNE.out).lt
  go_wp2_with fail
  obtain ⟨k, hk⟩ : ∃ k, w2.heap.size = k := ⟨_, rfl⟩
  have B1 := Blk.new w2 24 #[.int .i64 (x : Int), .int .i64 (y : Int)]
  have B0 := (HB0.out.extG HX2.out HNE.out).ext ((Ext.refl w2).alloc (.cells #[.int .i64 (x : Int), .int .i64 (y : Int)] 24))
  have HS3 := Lib.hid (HS2.out.ext ((Ext.refl w2).alloc (.cells #[.int .i64 (x : Int), .int .i64 (y : Int)] 24)))
  have HX3 := Lib.hid (XR.alloc (And.intro (And.intro (HG0.out.trans HX2.out) HS2.out) HKG.out) (.cells #[.int .i64 (x : Int), .int .i64 (y : Int)] 24))
  rw [hk] at B1 hlt2 ⊢
  generalize w2.alloc (.cells #[.int .i64 (x : Int), .int .i64 (y : Int)] 24) = w3 at *
  have HB0' := Lib.hid B0
  have HB1 := Lib.hid B1
  clear B0 B1 hk
  have c0 : w3.cell? ⟨w.heap.size, 0, none⟩ = some (.int .i64 0) := HB0'.out.cell 0
  have c1 : w3.cell? ⟨w.heap.size, 1, none⟩ = some (.int .i64 0) := HB0'.out.cell 1
  have f0 : w3.frozen? ⟨w.heap.size, 0, none⟩ = false := HB0'.out.frozen 0
  have f1 : w3.frozen? ⟨w.heap.size, 1, none⟩ = false := HB0'.out.frozen 1
  have d0 : w3.cell? ⟨k, 0, none⟩ = some (.int .i64 (x : Int)) := HB1.out.cell 0
  have d1 : w3.cell? ⟨k, 1, none⟩ = some (.int .i64 (y : Int)) := HB1.out.cell 1
  refine (bad_any g s2 _ HS3.out).mono ?_
  rintro e w' ⟨rfl, rfl⟩
  cases hb : s2.bad with
  | true =>
    rw [hb] at HP1 HX3
    go_wp2
    have ho : ∀ u v : Value, ((w3.setCell ⟨w.heap.size, 0, none⟩ u).setCell ⟨w.heap.size, 1, none⟩ v).cell? ⟨w.heap.size, 0, none⟩ = some u ∧ ((w3.setCell ⟨w.heap.size, 0, none⟩ u).setCell ⟨w.heap.size, 1, none⟩ v).cell? ⟨w.heap.size, 1, none⟩ = some v := fun u v => ⟨((HB0'.out.set_ 0 u).set_ 1 v).cell 0, ((HB0'.out.set_ 0 u).set_ 1 v).cell 1⟩
    exact bodyPost_ret (v := .tuple #[.agg #[.int .i64 0, .int .i64 0], .int .i64 10]) (by simp [results, Try.results50, go_sem, ho]) rfl (HP1.out _ trivial (XR.set (XR.set HX3.out (Nat.le_refl _) _) (Nat.le_refl _) _))
  | false =>
    have HC := Lib.hid (fun w => check_any ((x : Int), (y : Int)) w)
    rw [hb] at HP2 HP3 HX3
    go_wp2_with fail
    cases hok : Mom.ok ((x : Int), (y : Int)) with
    | true =>
      rw [hok, if_pos rfl] at HC
      have HP := Lib.hid (fun w' he => HP3.out w' x y trivial (by rw [HM.out]; exact hok) HM.out he)
      clear HP1 HP2 HP3 hok
      refine (HC.out _).mono ?_
      rintro e w4 ⟨rfl, he4⟩
      have B4 := HB0'.out.ext he4
      have D4 := HB1.out.ext he4
      have HX4 := Lib.hid (HX3.out.ext he4)
      have HB4 := Lib.hid B4
      clear c0 c1 f0 f1 d0 d1 he4
      have c0 : w4.cell? ⟨w.heap.size, 0, none⟩ = some (.int .i64 0) := B4.cell 0
      have c1 : w4.cell? ⟨w.heap.size, 1, none⟩ = some (.int .i64 0) := B4.cell 1
      have f0 : w4.frozen? ⟨w.heap.size, 0, none⟩ = false := B4.frozen 0
      have f1 : w4.frozen? ⟨w.heap.size, 1, none⟩ = false := B4.frozen 1
      have d0 : w4.cell? ⟨k, 0, none⟩ = some (.int .i64 (x : Int)) := D4.cell 0
      have d1 : w4.cell? ⟨k, 1, none⟩ = some (.int .i64 (y : Int)) := D4.cell 1
      clear B4 D4
      go_wp2
      have ho : ∀ u v : Value, ((w4.setCell ⟨w.heap.size, 0, none⟩ u).setCell ⟨w.heap.size, 1, none⟩ v).cell? ⟨w.heap.size, 0, none⟩ = some u ∧ ((w4.setCell ⟨w.heap.size, 0, none⟩ u).setCell ⟨w.heap.size, 1, none⟩ v).cell? ⟨w.heap.size, 1, none⟩ = some v := fun u v => ⟨((HB4.out.set_ 0 u).set_ 1 v).cell 0, ((HB4.out.set_ 0 u).set_ 1 v).cell 1⟩
      exact bodyPost_ret (v := .tuple #[.agg #[.int .i64 (x : Int), .int .i64 (y : Int)], .int .i64 0]) (by simp [results, Try.results50, go_sem, ho]) rfl (HP.out _ (XR.set (XR.set HX4.out (Nat.le_refl _) _) (Nat.le_refl _) _))
    | false =>
      rw [hok, if_neg (by simp)] at HC
      have HP := Lib.hid (fun w' he => HP2.out w' trivial (by rw [HM.out]; exact hok) he)
      clear HP1 HP2 HP3 hok
      refine (HC.out _).mono ?_
      rintro e w4 ⟨rfl, he4⟩
      have B4 := HB0'.out.ext he4
      have HX4 := Lib.hid (HX3.out.ext he4)
      have HB4 := Lib.hid B4
      clear c0 c1 f0 f1 d0 d1 he4
      have c0 : w4.cell? ⟨w.heap.size, 0, none⟩ = some (.int .i64 0) := B4.cell 0
      have c1 : w4.cell? ⟨w.heap.size, 1, none⟩ = some (.int .i64 0) := B4.cell 1
      have f0 : w4.frozen? ⟨w.heap.size, 0, none⟩ = false := B4.frozen 0
      have f1 : w4.frozen? ⟨w.heap.size, 1, none⟩ = false := B4.frozen 1
      clear B4
      go_wp2
      have ho : ∀ u v : Value, ((w4.setCell ⟨w.heap.size, 0, none⟩ u).setCell ⟨w.heap.size, 1, none⟩ v).cell? ⟨w.heap.size, 0, none⟩ = some u ∧ ((w4.setCell ⟨w.heap.size, 0, none⟩ u).setCell ⟨w.heap.size, 1, none⟩ v).cell? ⟨w.heap.size, 1, none⟩ = some v := fun u v => ⟨((HB4.out.set_ 0 u).set_ 1 v).cell 0, ((HB4.out.set_ 0 u).set_ 1 v).cell 1⟩
      exact bodyPost_ret (v := .tuple #[.agg #[.int .i64 0, .int .i64 0], .int .i64 40]) (by simp [results, Try.results50, go_sem, ho]) rfl (HP.out _ (XR.set (XR.set HX4.out (Nat.le_refl _) _) (Nat.le_refl _) _))
set_option maxRecDepth 100000 in
set_option maxHeartbeats 1000000 in
theorem rread_any (g : Nat) (s : Num.St) (w : World) (h0 : RR K w g s) (hl : s.l.length ≤ 1000000) (hK : ∀ b, K b → b < w.heap.size) :
    Calls Try.prog 52 #[.pointer (some ⟨g, 0, none⟩)] w (ReadPost K 79 g s w) := by
  have hg := h0.lt
  have HKG := Lib.hid (And.intro hK hg)
  have HN1 := Lib.hid (fun w (h : RR K w g s) => rnum_any g s w h hl)
  have HN2 := Lib.hid (fun w (h : RR K w g (Num.numP s).1) => rnum_any g (Num.numP s).1 w h (Nat.le_trans (Num.numP_len s) hl))
  have HP1 := Lib.hid (fun w' h he => @ReadPost.bad K 79 g s w w' h he)
  have HP2 := Lib.hid (fun w' h h2 he => @ReadPost.no K 79 g s w w' h h2 he)
  have HP3 := Lib.hid (fun w' x y h h2 hm he => @ReadPost.yes K 79 g s w w' x y h h2 hm he)
  have hM : readM s = ((((Num.numP s).2 : Nat) : Int), (((Num.numP (Num.numP s).1).2 : Nat) : Int)) := rfl
  have hS : readS s = (Num.numP (Num.numP s).1).1 := rfl
  have H0 := Lib.hid (h0.ext ((Ext.refl w).alloc (.cells #[.int .i64 0, .int .i64 0] 24)))
  have HG0 := Lib.hid (ExtG.of (g := g) ((Ext.refl w).alloc (.cells #[.int .i64 0, .int .i64 0] 24)))
  have HB0 := Lib.hid (Blk.new w 24 #[.int .i64 0, .int .i64 0])
  generalize (Num.numP s).1 = s1 at *
  generalize (Num.numP s).2 = x at *
  rw [← hS] at HN2
  generalize readS s = s2 at *
  generalize (Num.numP s1).2 = y at *
  have HM := Lib.hid hM
  clear h0 hM hS hl hK
  have hne : w.heap.size ≠ g := by omega
  have HNE := Lib.hid hne
  clear hne
  go_enter Try.func52, Try.ntmps52
  go_wp2_with fail
  refine (HN1.out _ H0.out).mono ?_
  rintro e w1 ⟨rfl, hN1, he1⟩
  have HX1 := Lib.hid he1
  have HS1 := Lib.hid hN1
  clear he1 hN1
  go_wp2_with fail
  refine (HN2.out _ HS1.out).mono ?_
  rintro e w2 ⟨rfl, hN2, he2⟩
  have HX2 := Lib.hid (HX1.out.trans he2)
  have HS2 := Lib.hid hN2
  clear he2 hN2
  have B0 := HB0.out.extG HX2.out HNE.out
  have hlt2 := B0.lt
  have HB0' := Lib.hid (B0.ext ((Ext.refl w2).alloc (.cells #[.int .i64 (x : Int), .int .i64 (y : Int)] 24)))
  have HX3 := Lib.hid (XR.alloc (And.intro (And.intro (HG0.out.trans HX2.out) HS2.out) HKG.out) (.cells #[.int .i64 (x : Int), .int .i64 (y : Int)] 24))
  have hbd := HS2.out.mark.1
  have c0 : w2.cell? ⟨w.heap.size, 0, none⟩ = some (.int .i64 0) := B0.cell 0
  have c1 : w2.cell? ⟨w.heap.size, 1, none⟩ = some (.int .i64 0) := B0.cell 1
  have f0 : w2.frozen? ⟨w.heap.size, 0, none⟩ = false := B0.frozen 0
  have f1 : w2.frozen? ⟨w.heap.size, 1, none⟩ = false := B0.frozen 1
  have HB1 := Lib.hid (Blk.new w2 24 #[.int .i64 (x : Int), .int .i64 (y : Int)])
  have hg2 : g < w2.heap.size := by omega
  have HBW := Lib.hid B0
  have HXW := Lib.hid (show XR K 79 g s2.l s2.bad w w2 from And.intro (And.intro (HG0.out.trans HX2.out) HS2.out) HKG.out)
  clear B0
  cases hb : s2.bad with
  | true =>
    rw [hb] at HP1 hbd HXW
    go_wp2
    have B5 := ((HBW.out.set_ 0 (.int .i64 0)).set_ 1 (.int .i64 0)).ext ((Ext.refl _).alloc (.cells #[.int .i64 (x : Int), .int .i64 (y : Int)] 24))
    have ho0 : (((w2.setCell ⟨w.heap.size, 0, none⟩ (.int .i64 0)).setCell ⟨w.heap.size, 1, none⟩ (.int .i64 0)).alloc (.cells #[.int .i64 (x : Int), .int .i64 (y : Int)] 24)).cell? ⟨w.heap.size, 0, none⟩ = some (.int .i64 0) := B5.cell 0
    have ho1 : (((w2.setCell ⟨w.heap.size, 0, none⟩ (.int .i64 0)).setCell ⟨w.heap.size, 1, none⟩ (.int .i64 0)).alloc (.cells #[.int .i64 (x : Int), .int .i64 (y : Int)] 24)).cell? ⟨w.heap.size, 1, none⟩ = some (.int .i64 0) := B5.cell 1
    exact bodyPost_ret (v := .tuple #[.agg #[.int .i64 0, .int .i64 0], .int .i64 10]) (by simp [results, Try.results52, go_sem, ho0, ho1]) rfl (HP1.out _ trivial (XR.alloc (XR.set (XR.set HXW.out (p := ⟨w.heap.size, 0, none⟩) (Nat.le_refl _) _) (p := ⟨w.heap.size, 1, none⟩) (Nat.le_refl _) _) _))
  | false =>
    have HC := Lib.hid (fun w => rcheck_any ((x : Int), (y : Int)) w)
    rw [hb] at HP2 HP3 hbd HX3
    go_wp2_with fail
    clear c0 c1 f0 f1 hbd
    obtain ⟨k, hk⟩ : ∃ k, w2.heap.size = k := ⟨_, rfl⟩
    rw [hk] at HB1 hlt2 hg2 ⊢
    generalize (w2.alloc (.cells #[.int .i64 (x : Int), .int .i64 (y : Int)] 24)) = w3 at *
    clear hk
    cases hok : Mom.ok ((x : Int), (y : Int)) with
    | true =>
      rw [hok] at HC
      have HP := Lib.hid (fun w' he => HP3.out w' x y trivial (by rw [HM.out]; exact hok) HM.out he)
      clear HP1 HP2 HP3 hok
      refine (HC.out _).mono ?_
      rintro e w4 ⟨rfl, he4⟩
      have B4 := HB0'.out.ext he4
      have D4 := HB1.out.ext he4
      have HX4 := Lib.hid (HX3.out.ext he4)
      have HB4 := Lib.hid B4
      clear he4
      have c0 : w4.cell? ⟨w.heap.size, 0, none⟩ = some (.int .i64 0) := B4.cell 0
      have c1 : w4.cell? ⟨w.heap.size, 1, none⟩ = some (.int .i64 0) := B4.cell 1
      have f0 : w4.frozen? ⟨w.heap.size, 0, none⟩ = false := B4.frozen 0
      have f1 : w4.frozen? ⟨w.heap.size, 1, none⟩ = false := B4.frozen 1
      have d0 : w4.cell? ⟨k, 0, none⟩ = some (.int .i64 (x : Int)) := D4.cell 0
      have d1 : w4.cell? ⟨k, 1, none⟩ = some (.int .i64 (y : Int)) := D4.cell 1
      clear B4 D4
      go_wp2
      have ho : ∀ u v : Value, ((w4.setCell ⟨w.heap.size, 0, none⟩ u).setCell ⟨w.heap.size, 1, none⟩ v).cell? ⟨w.heap.size, 0, none⟩ = some u ∧ ((w4.setCell ⟨w.heap.size, 0, none⟩ u).setCell ⟨w.heap.size, 1, none⟩ v).cell? ⟨w.heap.size, 1, none⟩ = some v := fun u v => ⟨((HB4.out.set_ 0 u).set_ 1 v).cell 0, ((HB4.out.set_ 0 u).set_ 1 v).cell 1⟩
      exact bodyPost_ret (v := .tuple #[.agg #[.int .i64 (x : Int), .int .i64 (y : Int)], .int .i64 0]) (by simp [results, Try.results52, go_sem, ho]) rfl (HP.out _ (XR.set (XR.set HX4.out (Nat.le_refl _) _) (Nat.le_refl _) _))
    | false =>
      rw [hok] at HC
      have HP := Lib.hid (fun w' he => HP2.out w' trivial (by rw [HM.out]; exact hok) he)
      clear HP1 HP2 HP3 hok
      refine (HC.out _).mono ?_
      rintro e w4 ⟨rfl, he4⟩
      have B4 := HB0'.out.ext he4
      have HX4 := Lib.hid (HX3.out.ext he4)
      have HB4 := Lib.hid B4
      clear he4
      have c0 : w4.cell? ⟨w.heap.size, 0, none⟩ = some (.int .i64 0) := B4.cell 0
      have c1 : w4.cell? ⟨w.heap.size, 1, none⟩ = some (.int .i64 0) := B4.cell 1
      have f0 : w4.frozen? ⟨w.heap.size, 0, none⟩ = false := B4.frozen 0
      have f1 : w4.frozen? ⟨w.heap.size, 1, none⟩ = false := B4.frozen 1
      clear B4
      go_wp2
      have ho : ∀ u v : Value, ((w4.setCell ⟨w.heap.size, 0, none⟩ u).setCell ⟨w.heap.size, 1, none⟩ v).cell? ⟨w.heap.size, 0, none⟩ = some u ∧ ((w4.setCell ⟨w.heap.size, 0, none⟩ u).setCell ⟨w.heap.size, 1, none⟩ v).cell? ⟨w.heap.size, 1, none⟩ = some v := fun u v => ⟨((HB4.out.set_ 0 u).set_ 1 v).cell 0, ((HB4.out.set_ 0 u).set_ 1 v).cell 1⟩
      exact bodyPost_ret (v := .tuple #[.agg #[.int .i64 0, .int .i64 0], .int .i64 40]) (by simp [results, Try.results52, go_sem, ho]) rfl (HP.out _ (XR.set (XR.set HX4.out (Nat.le_refl _) _) (Nat.le_refl _) _))

set_option maxRecDepth 100000 in
set_option maxHeartbeats 400000 in
theorem mread_nil (w : World) : Calls Try.prog 50 #[.pointer none] w fun e w' => e = .returned (.tuple #[mV (0, 0), .int .i64 10]) ∧ Ext w w' := by
  have HB0 := Lib.hid (Blk.new w 24 #[.int .i64 0, .int .i64 0])
  have HX0 := Lib.hid ((Ext.refl w).alloc (.cells #[.int .i64 0, .int .i64 0] 24))
  go_enter Try.func50, Try.ntmps50
  go_wp2_with fail
  refine (num_nil _).mono ?_
  rintro e w1 ⟨rfl, hw1⟩
  obtain rfl := hw1
  go_wp2_with fail
  refine (num_nil _).mono ?_
  rintro e w1 ⟨rfl, hw1⟩
  obtain rfl := hw1
  go_wp2_with fail
  refine (bad_nil _).mono ?_
  rintro e w1 ⟨rfl, hw1⟩
  have B4 : Blk w1 w.heap.size 24 #[.int .i64 0, .int .i64 0] := by rw [← hw1]; exact HB0.out.ext ((Ext.refl _).alloc _)
  have HX4 := Lib.hid (show Ext w w1 by rw [← hw1]; exact HX0.out.alloc _)
  have HB4 := Lib.hid B4
  have c0 : w1.cell? ⟨w.heap.size, 0, none⟩ = some (.int .i64 0) := B4.cell 0
  have c1 : w1.cell? ⟨w.heap.size, 1, none⟩ = some (.int .i64 0) := B4.cell 1
  have f0 : w1.frozen? ⟨w.heap.size, 0, none⟩ = false := B4.frozen 0
  have f1 : w1.frozen? ⟨w.heap.size, 1, none⟩ = false := B4.frozen 1
  clear B4 hw1
  go_wp2
  have ho : ∀ u v : Value, ((w1.setCell ⟨w.heap.size, 0, none⟩ u).setCell ⟨w.heap.size, 1, none⟩ v).cell? ⟨w.heap.size, 0, none⟩ = some u ∧ ((w1.setCell ⟨w.heap.size, 0, none⟩ u).setCell ⟨w.heap.size, 1, none⟩ v).cell? ⟨w.heap.size, 1, none⟩ = some v := fun u v => ⟨((HB4.out.set_ 0 u).set_ 1 v).cell 0, ((HB4.out.set_ 0 u).set_ 1 v).cell 1⟩
  exact bodyPost_ret (v := .tuple #[.agg #[.int .i64 0, .int .i64 0], .int .i64 10]) (by simp [results, Try.results50, go_sem, ho]) rfl ⟨rfl, Ext.setCell (Ext.setCell HX4.out (Nat.le_refl _) _) (Nat.le_refl _) _⟩
end Go.Proofs.Ytacpomonidmjaaa.Mo
