/-
  RecRead, packed: what the claim needs of them.
-/
import Derived.Test.YtpmpjjhchkoboaaGreatDoorPa19
import Derived.Test.YtpmpjjhchkoboaaGreatDoorPa31
import Derived.Test.YtpmpjjhchkoboaaGreatDoorPa13
namespace Go.Proofs.YtpmpjjhchkoboaaGreatDoor
open Go.RowKit Go.Ox
set_option linter.unusedSimpArgs false
set_option linter.unusedVariables false
open Go.Ox.Rec (readM readS readE readV)
def ReadPost (K : Nat → Prop) (T : TypeId) (g : Nat) (s : Num.St) (w : World) (e : Ending) (w' : World) : Prop := e = .returned (.tuple #[mV (readV s), .int .i64 (readE s)]) ∧ XR K T g (readS s).l (readS s).bad w w'
section
variable {K : Nat → Prop} {T : TypeId} {g : Nat} {s : Num.St} {w w' : World}
theorem ReadPost.bad (h : (readS s).bad = true) (he : XR K T g (readS s).l (readS s).bad w w') : ReadPost K T g s w (.returned (.tuple #[.agg #[.int .i64 0, .int .i64 0], .int .i64 10])) w' := by
  unfold ReadPost; refine ⟨?_, he⟩; unfold readE readV; rw [if_pos h, if_pos h]
theorem ReadPost.no (h : (readS s).bad = false) (h2 : Rec.ok (readM s) = false) (he : XR K T g (readS s).l (readS s).bad w w') : ReadPost K T g s w (.returned (.tuple #[.agg #[.int .i64 0, .int .i64 0], .int .i64 30])) w' := by
  unfold ReadPost; refine ⟨?_, he⟩; unfold readE readV; rw [h, h2]; rfl
theorem ReadPost.yes {x y : Nat} (h : (readS s).bad = false) (h2 : Rec.ok (readM s) = true) (hm : readM s = ((x : Int), (y : Int))) (he : XR K T g (readS s).l (readS s).bad w w') : ReadPost K T g s w (.returned (.tuple #[.agg #[.int .i64 (x : Int), .int .i64 (y : Int)], .int .i64 0])) w' := by
  unfold ReadPost; refine ⟨?_, he⟩; unfold readE readV; rw [h, h2, hm]; rfl
end
variable {K : Nat → Prop}
set_option maxRecDepth 100000 in
set_option maxHeartbeats 1000000 in
theorem mread_any (g : Nat) (s : Num.St) (w : World) (h0 : NR K w g s) (hl : s.l.length ≤ 1000000) (hK : ∀ b, K b → b < w.heap.size) :
    Calls Tryz.prog 149 #[.pointer (some ⟨g, 0, none⟩)] w (ReadPost K 136 g s w) := by
  have hg := h0.lt
  have HKG := Lib.hid (And.intro hK hg)
  have HN1 := Lib.hid (fun w (h : NR K w g s) => num_any g s w h hl)
  have HN2 := Lib.hid (fun w (h : NR K w g (Num.numP s).1) => num_any g (Num.numP s).1 w h (Nat.le_trans (Num.numP_len s) hl))
  have HP1 := Lib.hid (fun w' h he => @ReadPost.bad K 136 g s w w' h he)
  have HP2 := Lib.hid (fun w' h h2 he => @ReadPost.no K 136 g s w w' h h2 he)
  have HP3 := Lib.hid (fun w' x y h h2 hm he => @ReadPost.yes K 136 g s w w' x y h h2 hm he)
  have hM : readM s = ((((Num.numP s).2 : Nat) : Int), (((Num.numP (Num.numP s).1).2 : Nat) : Int)) := rfl
  have hS : readS s = (Num.numP (Num.numP s).1).1 := rfl
  have H0 := Lib.hid (h0.ext ((Ext.refl w).alloc (.cells #[.int .i64 0, .int .i64 0] 55)))
  have HG0 := Lib.hid (ExtG.of (g := g) ((Ext.refl w).alloc (.cells #[.int .i64 0, .int .i64 0] 55)))
  have HB0 := Lib.hid (Blk.new w 55 #[.int .i64 0, .int .i64 0])
  generalize (Num.numP s).1 = s1 at *
  generalize (Num.numP s).2 = x at *
  rw [← hS] at HN2
  generalize readS s = s2 at *
  generalize (Num.numP s1).2 = y at *
  have HM := Lib.hid hM
  clear h0 hM hS hl hK
  have hne : w.heap.size ≠ g := by omega
  have HNE := Lib.hid hne
  clear hne
  go_enter Tryz.func149, Tryz.ntmps149
  go_wp2_with fail
  refine (HN1.out _ H0.out).mono ?_
  rintro e w1 ⟨rfl, hN1, he1⟩
  have HX1 := Lib.hid he1
  have HS1 := Lib.hid hN1
  clear he1 hN1
  go_wp2_with fail
  refine (HN2.out _ HS1.out).mono ?_
  rintro e w2 ⟨rfl, hN2, he2⟩
  have HX2 := Lib.hid (HX1.out.trans he2)
  have HS2 := Lib.hid hN2
  clear he2 hN2
  have hlt2 := (HB0.out.extG HX2.out HNE.out).lt
  go_wp2_with fail
  obtain ⟨k, hk⟩ : ∃ k, w2.heap.size = k := ⟨_, rfl⟩
  have B1 := Blk.new w2 55 #[.int .i64 (x : Int), .int .i64 (y : Int)]
  have B0 := (HB0.out.extG HX2.out HNE.out).ext ((Ext.refl w2).alloc (.cells #[.int .i64 (x : Int), .int .i64 (y : Int)] 55))
  have HS3 := Lib.hid (HS2.out.ext ((Ext.refl w2).alloc (.cells #[.int .i64 (x : Int), .int .i64 (y : Int)] 55)))
  have HX3 := Lib.hid (XR.alloc (And.intro (And.intro (HG0.out.trans HX2.out) HS2.out) HKG.out) (.cells #[.int .i64 (x : Int), .int .i64 (y : Int)] 55))
  rw [hk] at B1 hlt2 ⊢
  generalize w2.alloc (.cells #[.int .i64 (x : Int), .int .i64 (y : Int)] 55) = w3 at *
  have HB0' := Lib.hid B0
  have HB1 := Lib.hid B1
  clear B0 B1 hk
  have c0 : w3.cell? ⟨w.heap.size, 0, none⟩ = some (.int .i64 0) := HB0'.out.cell 0
  have c1 : w3.cell? ⟨w.heap.size, 1, none⟩ = some (.int .i64 0) := HB0'.out.cell 1
  have f0 : w3.frozen? ⟨w.heap.size, 0, none⟩ = false := HB0'.out.frozen 0
  have f1 : w3.frozen? ⟨w.heap.size, 1, none⟩ = false := HB0'.out.frozen 1
  have d0 : w3.cell? ⟨k, 0, none⟩ = some (.int .i64 (x : Int)) := HB1.out.cell 0
  have d1 : w3.cell? ⟨k, 1, none⟩ = some (.int .i64 (y : Int)) := HB1.out.cell 1
  refine (bad_any g s2 _ HS3.out).mono ?_
  rintro e w' ⟨rfl, rfl⟩
  cases hb : s2.bad with
  | true =>
    rw [hb] at HP1 HX3
    go_wp2
    have ho : ∀ u v : Value, ((w3.setCell ⟨w.heap.size, 0, none⟩ u).setCell ⟨w.heap.size, 1, none⟩ v).cell? ⟨w.heap.size, 0, none⟩ = some u ∧ ((w3.setCell ⟨w.heap.size, 0, none⟩ u).setCell ⟨w.heap.size, 1, none⟩ v).cell? ⟨w.heap.size, 1, none⟩ = some v := fun u v => ⟨((HB0'.out.set_ 0 u).set_ 1 v).cell 0, ((HB0'.out.set_ 0 u).set_ 1 v).cell 1⟩
    exact bodyPost_ret (v := .tuple #[.agg #[.int .i64 0, .int .i64 0], .int .i64 10]) (by simp [results, Tryz.results149, go_sem, ho]) rfl (HP1.out _ trivial (XR.set (XR.set HX3.out (Nat.le_refl _) _) (Nat.le_refl _) _))
  | false =>
    have HC := Lib.hid (fun w => check_any ((x : Int), (y : Int)) w)
    rw [hb] at HP2 HP3 HX3
    go_wp2_with fail
    cases hok : Rec.ok ((x : Int), (y : Int)) with
    | true =>
      rw [hok, if_pos rfl] at HC
      have HP := Lib.hid (fun w' he => HP3.out w' x y trivial (by rw [HM.out]; exact hok) HM.out he)
      clear HP1 HP2 HP3 hok
      refine (HC.out _).mono ?_
      rintro e w4 ⟨rfl, he4⟩
      have B4 := HB0'.out.ext he4
      have D4 := HB1.out.ext he4
      have HX4 := Lib.hid (HX3.out.ext he4)
      have HB4 := Lib.hid B4
      clear c0 c1 f0 f1 d0 d1 he4
      have c0 : w4.cell? ⟨w.heap.size, 0, none⟩ = some (.int .i64 0) := B4.cell 0
      have c1 : w4.cell? ⟨w.heap.size, 1, none⟩ = some (.int .i64 0) := B4.cell 1
      have f0 : w4.frozen? ⟨w.heap.size, 0, none⟩ = false := B4.frozen 0
      have f1 : w4.frozen? ⟨w.heap.size, 1, none⟩ = false := B4.frozen 1
      have d0 : w4.cell? ⟨k, 0, none⟩ = some (.int .i64 (x : Int)) := D4.cell 0
      have d1 : w4.cell? ⟨k, 1, none⟩ = some (.int .i64 (y : Int)) := D4.cell 1
      clear B4 D4
      go_wp2
      have ho : ∀ u v : Value, ((w4.setCell ⟨w.heap.size, 0, none⟩ u).setCell ⟨w.heap.size, 1, none⟩ v).cell? ⟨w.heap.size, 0, none⟩ = some u ∧ ((w4.setCell ⟨w.heap.size, 0, none⟩ u).setCell ⟨w.heap.size, 1, none⟩ v).cell? ⟨w.heap.size, 1, none⟩ = some v := fun u v => ⟨((HB4.out.set_ 0 u).set_ 1 v).cell 0, ((HB4.out.set_ 0 u).set_ 1 v).cell 1⟩
      exact bodyPost_ret (v := .tuple #[.agg #[.int .i64 (x : Int), .int .i64 (y : Int)], .int .i64 0]) (by simp [results, Tryz.results149, go_sem, ho]) rfl (HP.out _ (XR.set (XR.set HX4.out (Nat.le_refl _) _) (Nat.le_refl _) _))
    | false =>
      rw [hok, if_neg (by simp)] at HC
      have HP := Lib.hid (fun w' he => HP2.out w' trivial (by rw [HM.out]; exact hok) he)
      clear HP1 HP2 HP3 hok
      refine (HC.out _).mono ?_
      rintro e w4 ⟨rfl, he4⟩
      have B4 := HB0'.out.ext he4
      have HX4 := Lib.hid (HX3.out.ext he4)
      have HB4 := Lib.hid B4
      clear c0 c1 f0 f1 d0 d1 he4
      have c0 : w4.cell? ⟨w.heap.size, 0, none⟩ = some (.int .i64 0) := B4.cell 0
      have c1 : w4.cell? ⟨w.heap.size, 1, none⟩ = some (.int .i64 0) := B4.cell 1
      have f0 : w4.frozen? ⟨w.heap.size, 0, none⟩ = false := B4.frozen 0
      have f1 : w4.frozen? ⟨w.heap.size, 1, none⟩ = false := B4.frozen 1
      clear B4
      go_wp2
      have ho : ∀ u v : Value, ((w4.setCell ⟨w.heap.size, 0, none⟩ u).setCell ⟨w.heap.size, 1, none⟩ v).cell? ⟨w.heap.size, 0, none⟩ = some u ∧ ((w4.setCell ⟨w.heap.size, 0, none⟩ u).setCell ⟨w.heap.size, 1, none⟩ v).cell? ⟨w.heap.size, 1, none⟩ = some v := fun u v => ⟨((HB4.out.set_ 0 u).set_ 1 v).cell 0, ((HB4.out.set_ 0 u).set_ 1 v).cell 1⟩
      exact bodyPost_ret (v := .tuple #[.agg #[.int .i64 0, .int .i64 0], .int .i64 30]) (by simp [results, Tryz.results149, go_sem, ho]) rfl (HP.out _ (XR.set (XR.set HX4.out (Nat.le_refl _) _) (Nat.le_refl _) _))
end Go.Proofs.YtpmpjjhchkoboaaGreatDoor
