/-
  PlLawN, Box, PlRefL, GrArgs, MomArgs, GrFnR, GrRefI, packed: what the claim needs of them.
-/
import Derived.Test.YtcacicgkebcdkaaPw38
import Derived.Test.YtcacicgkebcdkaaPw34
import Derived.Test.YtcacicgkebcdkaaPw05
import Derived.Test.YtcacicgkebcdkaaPw39
import Derived.Test.YtcacicgkebcdkaaPw14
import Derived.Test.YtcacicgkebcdkaaPw11
import Derived.Test.YtcacicgkebcdkaaPw08
import Derived.Test.YtcacicgkebcdkaaPw06
import Derived.Test.YtcacicgkebcdkaaPw04
import Derived.Test.YtcacicgkebcdkaaPw09
set_option linter.unusedSimpArgs false
set_option linter.unusedVariables false
set_option maxRecDepth 100000
namespace Go.Ox.Pl
open Go.Ox.Gr Go.Proofs.Ytcacicgkebcdkaa Go.Proofs.Ytcacicgkebcdkaa.Mo
theorem leadsW_iff {w : Wy} {m n : Mom.M} : leadsW (some w) m n = true ↔ Mom.ok n = true ∧ (walkM w m).2 = 0 ∧ m.1 ≤ n.1 ∧ fW w m.2 ≤ n.2 := by
  unfold leadsW
  simp only [Bool.and_eq_true, decide_eq_true_eq]
  constructor
  · rintro ⟨h1, h2, h3⟩
    rw [walkM_val h2] at h3
    unfold Mom.ahead at h3
    simp only [Bool.and_eq_true, decide_eq_true_eq] at h3
    exact ⟨h1, h2, h3⟩
  · rintro ⟨h1, h2, h3⟩
    refine ⟨h1, h2, ?_⟩
    rw [walkM_val h2]
    unfold Mom.ahead
    simp only [Bool.and_eq_true, decide_eq_true_eq]
    exact h3
theorem pl_nd {g : G} {p : P2} (h : p ∈ gPl g) : (gNd g p).isSome = true := by
  unfold gPl at h
  split at h
  · rename_i hok
    exact (gNd_places hok).2 h
  · simp at h
theorem wayO_pl {g : G} {p q : P2} (hp : p ∈ gPl g) (hq : q ∈ gPl g) : wayO g p q = wayM g p q := by
  unfold wayO; rw [if_pos ⟨pl_nd hp, pl_nd hq⟩]
end Go.Ox.Pl
namespace Go.Ox
open Go.RowKit
def allocs (w : World) : List (Array Value × TypeId) → World
  | [] => w
  | x :: r => allocs (w.alloc (.cells x.1 x.2)) r
theorem allocs_ext : ∀ (bs : List (Array Value × TypeId)) (w : World), Ext w (allocs w bs)
  | [], w => Ext.refl w
  | x :: r, w => ((Ext.refl w).alloc (.cells x.1 x.2)).trans (allocs_ext r _)
theorem allocs_at : ∀ (bs : List (Array Value × TypeId)) (w : World) (k : Nat) (cs : Array Value) (t : TypeId), bs[k]? = some (cs, t) → Blk (allocs w bs) (w.heap.size + k) t cs
  | [], w, k, cs, t, h => by simp at h
  | x :: r, w, 0, cs, t, h => by
    simp only [List.getElem?_cons_zero, Option.some.injEq] at h
    subst h
    exact (Blk.new w t cs).ext (allocs_ext r _)
  | x :: r, w, k + 1, cs, t, h => by
    have := allocs_at r (w.alloc (.cells x.1 x.2)) k cs t (by simpa using h)
    have e : (w.alloc (.cells x.1 x.2)).heap.size + k = w.heap.size + (k + 1) := by simp; omega
    rw [e] at this
    exact this
end Go.Ox
namespace Go.Ox.Pl
open Go.Ox.Gr Go.Proofs.Ytcacicgkebcdkaa Go.Proofs.Ytcacicgkebcdkaa.Mo
def rleads (g : G) (p : P2) (m : Mom.M) (q : P2) (n : Mom.M) : Bool := if Mom.ok m = true ∧ Mom.ok n = true then leadsW (wayM g p q) m n else false
theorem rleads_eq {g : G} {p q : P2} {m n : Mom.M} (hp : p ∈ gPl g) (hq : q ∈ gPl g) : rleads g p m q n = leadsB g p m q n := by
  unfold rleads leadsB
  rw [wayO_pl hp hq]
  split
  · rfl
  · rename_i h
    cases hw : wayM g p q with
    | none => rfl
    | some x =>
      cases hl : leadsW (some x) m n with
      | false => rfl
      | true =>
        rw [leadsW_iff] at hl
        have := (walkM_ok.1 hl.2.1).2.2.1
        exact absurd ⟨this, hl.1⟩ h
end Go.Ox.Pl
namespace Go.Proofs.Ytcacicgkebcdkaa
open Go.RowKit Go.Ox Go.Ox.Gr Mo
attribute [local irreducible] RE OE NodesR
set_option maxHeartbeats 8000000 in
theorem rleads_any (d : Nat) (v : Value) (g : G) (p : Pl.P2) (m : Mom.M) (q : Pl.P2) (n : Mom.M) (w : World) (hv : NodesR d w v g.1) (hok : gOk g = true) (hn : (gPl g).length ≤ 20) (hp : p ∈ gPl g) :
    Calls Try.prog 22 #[gAg v g.2, plV p, mV m, plV q, mV n] w fun e w' => e = .returned (.bool (Pl.rleads g p m q n)) ∧ Ext w w' := by
  have HWY := Lib.hid (fun W (h : Ext w W) => rway_any d v g p q W (hv.ext h) hok hn hp)
  have HLB := Lib.hid (show Pl.rleads g p m q n = if Mom.ok m = true ∧ Mom.ok n = true then Pl.leadsW (Pl.wayM g p q) m n else false from rfl)
  have HCM := Lib.hid (fun W => Mo.rcheck_any m W)
  have HCN := Lib.hid (fun W => Mo.rcheck_any n W)
  have HLW := Lib.hid (show ∀ x, Pl.leadsW (some x) m n = (Mom.ok n && (decide ((walkM x m).2 = 0) && Mom.ahead (walkM x m).1 n)) from fun x => rfl)
  have HLN := Lib.hid (show Pl.leadsW none m n = false from rfl)
  have HWK := Lib.hid (fun x W => Mo.rwalk_any x m W)
  have HAH := Lib.hid (fun y W => Mo.rahead_any y n W)
  obtain ⟨l, out⟩ := g
  simp only at HWY hv
  generalize Pl.rleads (l, out) p m q n = LB at *
  generalize Pl.wayM (l, out) p q = WO at *
  generalize Mom.ok m = om at *
  generalize Mom.ok n = on at *
  obtain ⟨A, c, rfl⟩ := hv.form
  obtain ⟨p1, p2⟩ := p
  obtain ⟨q1, q2⟩ := q
  obtain ⟨m1, m2⟩ := m
  obtain ⟨n1, n2⟩ := n
  have HX := Lib.hid (show Ext w (((((w.alloc (.cells #[.slice A l.length c, .int .i64 out] 24)).alloc (.cells #[.int .i64 p1, .int .i64 p2] 26)).alloc (.cells #[.int .i64 m1, .int .i64 m2] 48)).alloc (.cells #[.int .i64 q1, .int .i64 q2] 26)).alloc (.cells #[.int .i64 n1, .int .i64 n2] 48)) from allocs_ext [(#[.slice A l.length c, .int .i64 out], 24), (#[.int .i64 p1, .int .i64 p2], 26), (#[.int .i64 m1, .int .i64 m2], 48), (#[.int .i64 q1, .int .i64 q2], 26), (#[.int .i64 n1, .int .i64 n2], 48)] w)
  have HB0 := Lib.hid (show Blk (((((w.alloc (.cells #[.slice A l.length c, .int .i64 out] 24)).alloc (.cells #[.int .i64 p1, .int .i64 p2] 26)).alloc (.cells #[.int .i64 m1, .int .i64 m2] 48)).alloc (.cells #[.int .i64 q1, .int .i64 q2] 26)).alloc (.cells #[.int .i64 n1, .int .i64 n2] 48)) (w.heap.size) 24 #[.slice A l.length c, .int .i64 out] from allocs_at [(#[.slice A l.length c, .int .i64 out], 24), (#[.int .i64 p1, .int .i64 p2], 26), (#[.int .i64 m1, .int .i64 m2], 48), (#[.int .i64 q1, .int .i64 q2], 26), (#[.int .i64 n1, .int .i64 n2], 48)] w 0 _ _ rfl)
  have HB1 := Lib.hid (show Blk (((((w.alloc (.cells #[.slice A l.length c, .int .i64 out] 24)).alloc (.cells #[.int .i64 p1, .int .i64 p2] 26)).alloc (.cells #[.int .i64 m1, .int .i64 m2] 48)).alloc (.cells #[.int .i64 q1, .int .i64 q2] 26)).alloc (.cells #[.int .i64 n1, .int .i64 n2] 48)) (w.heap.size + 1) 26 #[.int .i64 p1, .int .i64 p2] from allocs_at [(#[.slice A l.length c, .int .i64 out], 24), (#[.int .i64 p1, .int .i64 p2], 26), (#[.int .i64 m1, .int .i64 m2], 48), (#[.int .i64 q1, .int .i64 q2], 26), (#[.int .i64 n1, .int .i64 n2], 48)] w 1 _ _ rfl)
  have HB2 := Lib.hid (show Blk (((((w.alloc (.cells #[.slice A l.length c, .int .i64 out] 24)).alloc (.cells #[.int .i64 p1, .int .i64 p2] 26)).alloc (.cells #[.int .i64 m1, .int .i64 m2] 48)).alloc (.cells #[.int .i64 q1, .int .i64 q2] 26)).alloc (.cells #[.int .i64 n1, .int .i64 n2] 48)) (w.heap.size + 1 + 1) 48 #[.int .i64 m1, .int .i64 m2] from allocs_at [(#[.slice A l.length c, .int .i64 out], 24), (#[.int .i64 p1, .int .i64 p2], 26), (#[.int .i64 m1, .int .i64 m2], 48), (#[.int .i64 q1, .int .i64 q2], 26), (#[.int .i64 n1, .int .i64 n2], 48)] w 2 _ _ rfl)
  have HB3 := Lib.hid (show Blk (((((w.alloc (.cells #[.slice A l.length c, .int .i64 out] 24)).alloc (.cells #[.int .i64 p1, .int .i64 p2] 26)).alloc (.cells #[.int .i64 m1, .int .i64 m2] 48)).alloc (.cells #[.int .i64 q1, .int .i64 q2] 26)).alloc (.cells #[.int .i64 n1, .int .i64 n2] 48)) (w.heap.size + 1 + 1 + 1) 26 #[.int .i64 q1, .int .i64 q2] from allocs_at [(#[.slice A l.length c, .int .i64 out], 24), (#[.int .i64 p1, .int .i64 p2], 26), (#[.int .i64 m1, .int .i64 m2], 48), (#[.int .i64 q1, .int .i64 q2], 26), (#[.int .i64 n1, .int .i64 n2], 48)] w 3 _ _ rfl)
  have HB4 := Lib.hid (show Blk (((((w.alloc (.cells #[.slice A l.length c, .int .i64 out] 24)).alloc (.cells #[.int .i64 p1, .int .i64 p2] 26)).alloc (.cells #[.int .i64 m1, .int .i64 m2] 48)).alloc (.cells #[.int .i64 q1, .int .i64 q2] 26)).alloc (.cells #[.int .i64 n1, .int .i64 n2] 48)) (w.heap.size + 1 + 1 + 1 + 1) 48 #[.int .i64 n1, .int .i64 n2] from allocs_at [(#[.slice A l.length c, .int .i64 out], 24), (#[.int .i64 p1, .int .i64 p2], 26), (#[.int .i64 m1, .int .i64 m2], 48), (#[.int .i64 q1, .int .i64 q2], 26), (#[.int .i64 n1, .int .i64 n2], 48)] w 4 _ _ rfl)
  clear hv hok hn hp
  go_enter Try.func22, Try.ntmps22
  go_upto_region 1 with fail
  generalize w.heap.size = bn at *
  generalize ((((w.alloc (.cells #[.slice A l.length c, .int .i64 out] 24)).alloc (.cells #[.int .i64 p1, .int .i64 p2] 26)).alloc (.cells #[.int .i64 m1, .int .i64 m2] 48)).alloc (.cells #[.int .i64 q1, .int .i64 q2] 26)).alloc (.cells #[.int .i64 n1, .int .i64 n2] 48) = w0 at *
  have c00 : w0.cell? ⟨bn, 0, none⟩ = some (.slice A l.length c) := HB0.out.cell 0
  have c01 : w0.cell? ⟨bn, 1, none⟩ = some (.int .i64 out) := HB0.out.cell 1
  have c10 : w0.cell? ⟨bn + 1, 0, none⟩ = some (.int .i64 p1) := HB1.out.cell 0
  have c11 : w0.cell? ⟨bn + 1, 1, none⟩ = some (.int .i64 p2) := HB1.out.cell 1
  have c20 : w0.cell? ⟨bn + 1 + 1, 0, none⟩ = some (.int .i64 m1) := HB2.out.cell 0
  have c21 : w0.cell? ⟨bn + 1 + 1, 1, none⟩ = some (.int .i64 m2) := HB2.out.cell 1
  have c30 : w0.cell? ⟨bn + 1 + 1 + 1, 0, none⟩ = some (.int .i64 q1) := HB3.out.cell 0
  have c31 : w0.cell? ⟨bn + 1 + 1 + 1, 1, none⟩ = some (.int .i64 q2) := HB3.out.cell 1
  have c40 : w0.cell? ⟨bn + 1 + 1 + 1 + 1, 0, none⟩ = some (.int .i64 n1) := HB4.out.cell 0
  have c41 : w0.cell? ⟨bn + 1 + 1 + 1 + 1, 1, none⟩ = some (.int .i64 n2) := HB4.out.cell 1
  go_wp2_with fail
  refine (HCM.out w0).mono ?_
  rintro e w1 ⟨rfl, he⟩
  clear c00 c01 c10 c11 c20 c21 c30 c31 c40 c41
  have HX := Lib.hid (HX.out.trans he)
  have HB0 := Lib.hid (HB0.out.ext he)
  have HB1 := Lib.hid (HB1.out.ext he)
  have HB2 := Lib.hid (HB2.out.ext he)
  have HB3 := Lib.hid (HB3.out.ext he)
  have HB4 := Lib.hid (HB4.out.ext he)
  clear he
  have c00 : w1.cell? ⟨bn, 0, none⟩ = some (.slice A l.length c) := HB0.out.cell 0
  have c01 : w1.cell? ⟨bn, 1, none⟩ = some (.int .i64 out) := HB0.out.cell 1
  have c10 : w1.cell? ⟨bn + 1, 0, none⟩ = some (.int .i64 p1) := HB1.out.cell 0
  have c11 : w1.cell? ⟨bn + 1, 1, none⟩ = some (.int .i64 p2) := HB1.out.cell 1
  have c20 : w1.cell? ⟨bn + 1 + 1, 0, none⟩ = some (.int .i64 m1) := HB2.out.cell 0
  have c21 : w1.cell? ⟨bn + 1 + 1, 1, none⟩ = some (.int .i64 m2) := HB2.out.cell 1
  have c30 : w1.cell? ⟨bn + 1 + 1 + 1, 0, none⟩ = some (.int .i64 q1) := HB3.out.cell 0
  have c31 : w1.cell? ⟨bn + 1 + 1 + 1, 1, none⟩ = some (.int .i64 q2) := HB3.out.cell 1
  have c40 : w1.cell? ⟨bn + 1 + 1 + 1 + 1, 0, none⟩ = some (.int .i64 n1) := HB4.out.cell 0
  have c41 : w1.cell? ⟨bn + 1 + 1 + 1 + 1, 1, none⟩ = some (.int .i64 n2) := HB4.out.cell 1
  cases om with
  | false =>
    have HR := Lib.hid (show LB = false from by rw [HLB.out]; rfl)
    clear c00 c01 c10 c11 c20 c21 c30 c31 c40 c41
    go_wp2
    go_ret
    exact ⟨by rw [HR.out]; rfl, HX.out⟩
  | true =>
    go_wp2_with fail
    refine (HCN.out w1).mono ?_
    rintro e w2 ⟨rfl, he⟩
    clear c00 c01 c10 c11 c20 c21 c30 c31 c40 c41
    have HX := Lib.hid (HX.out.trans he)
    have HB0 := Lib.hid (HB0.out.ext he)
    have HB1 := Lib.hid (HB1.out.ext he)
    have HB2 := Lib.hid (HB2.out.ext he)
    have HB3 := Lib.hid (HB3.out.ext he)
    have HB4 := Lib.hid (HB4.out.ext he)
    clear he
    cases on with
    | false =>
      have HR := Lib.hid (show LB = false from by rw [HLB.out]; rfl)
      go_wp2
      go_ret
      exact ⟨by rw [HR.out]; rfl, HX.out⟩
    | true =>
      have c00 : w2.cell? ⟨bn, 0, none⟩ = some (.slice A l.length c) := HB0.out.cell 0
      have c01 : w2.cell? ⟨bn, 1, none⟩ = some (.int .i64 out) := HB0.out.cell 1
      have c10 : w2.cell? ⟨bn + 1, 0, none⟩ = some (.int .i64 p1) := HB1.out.cell 0
      have c11 : w2.cell? ⟨bn + 1, 1, none⟩ = some (.int .i64 p2) := HB1.out.cell 1
      have c20 : w2.cell? ⟨bn + 1 + 1, 0, none⟩ = some (.int .i64 m1) := HB2.out.cell 0
      have c21 : w2.cell? ⟨bn + 1 + 1, 1, none⟩ = some (.int .i64 m2) := HB2.out.cell 1
      have c30 : w2.cell? ⟨bn + 1 + 1 + 1, 0, none⟩ = some (.int .i64 q1) := HB3.out.cell 0
      have c31 : w2.cell? ⟨bn + 1 + 1 + 1, 1, none⟩ = some (.int .i64 q2) := HB3.out.cell 1
      have c40 : w2.cell? ⟨bn + 1 + 1 + 1 + 1, 0, none⟩ = some (.int .i64 n1) := HB4.out.cell 0
      have c41 : w2.cell? ⟨bn + 1 + 1 + 1 + 1, 1, none⟩ = some (.int .i64 n2) := HB4.out.cell 1
      go_wp2_with fail
      refine (HWY.out w2 HX.out).mono ?_
      rintro e w3 ⟨rfl, he⟩
      clear c00 c01 c10 c11 c20 c21 c30 c31 c40 c41
      obtain ⟨z1, z2, hzz⟩ : ∃ z1 z2, WO.getD (false, 0) = (z1, z2) := ⟨_, _, rfl⟩
      rw [hzz]
      have he3 := he.alloc (.cells #[.bool z1, .int .i64 z2] 37)
      have HZ := Lib.hid (Blk.new w3 37 #[.bool z1, .int .i64 z2])
      have HX := Lib.hid (HX.out.trans he3)
      have HB0 := Lib.hid (HB0.out.ext he3)
      have HB1 := Lib.hid (HB1.out.ext he3)
      have HB2 := Lib.hid (HB2.out.ext he3)
      have HB3 := Lib.hid (HB3.out.ext he3)
      have HB4 := Lib.hid (HB4.out.ext he3)
      clear he3
      clear he
      go_upto_region 4 with fail
      obtain ⟨qz, hqz⟩ : ∃ q, q = w3.heap.size := ⟨_, rfl⟩
      rw [← hqz] at HZ ⊢
      clear hqz
      generalize w3.alloc (.cells #[.bool z1, .int .i64 z2] 37) = w4 at *
      cases hWO : WO with
      | none =>
        have HR := Lib.hid (show LB = false from by rw [HLB.out, hWO, HLN.out]; rfl)
        simp only [Option.isSome_none]
        clear hWO hzz
        go_wp2
        go_ret
        exact ⟨by rw [HR.out]; rfl, HX.out⟩
      | some x =>
        have hx : x = (z1, z2) := by rw [hWO] at hzz; simpa using hzz
        subst hx
        simp only [Option.isSome_some]
        have HL9 := Lib.hid (show LB = (true && (decide ((walkM (z1, z2) (m1, m2)).2 = 0) && Mom.ahead (walkM (z1, z2) (m1, m2)).1 (n1, n2))) from by rw [HLB.out, if_pos (by simp), hWO, HLW.out])
        have HW9 := Lib.hid (HWK.out (z1, z2) w4)
        clear hWO hzz
        obtain ⟨⟨y1, y2⟩, ye, hy⟩ : ∃ y ye, walkM (z1, z2) (m1, m2) = (y, ye) := ⟨_, _, rfl⟩
        rw [hy] at HL9 HW9
        clear hy
        simp only at HL9 HW9
        have c00 : w4.cell? ⟨bn, 0, none⟩ = some (.slice A l.length c) := HB0.out.cell 0
        have c01 : w4.cell? ⟨bn, 1, none⟩ = some (.int .i64 out) := HB0.out.cell 1
        have c10 : w4.cell? ⟨bn + 1, 0, none⟩ = some (.int .i64 p1) := HB1.out.cell 0
        have c11 : w4.cell? ⟨bn + 1, 1, none⟩ = some (.int .i64 p2) := HB1.out.cell 1
        have c20 : w4.cell? ⟨bn + 1 + 1, 0, none⟩ = some (.int .i64 m1) := HB2.out.cell 0
        have c21 : w4.cell? ⟨bn + 1 + 1, 1, none⟩ = some (.int .i64 m2) := HB2.out.cell 1
        have c30 : w4.cell? ⟨bn + 1 + 1 + 1, 0, none⟩ = some (.int .i64 q1) := HB3.out.cell 0
        have c31 : w4.cell? ⟨bn + 1 + 1 + 1, 1, none⟩ = some (.int .i64 q2) := HB3.out.cell 1
        have c40 : w4.cell? ⟨bn + 1 + 1 + 1 + 1, 0, none⟩ = some (.int .i64 n1) := HB4.out.cell 0
        have c41 : w4.cell? ⟨bn + 1 + 1 + 1 + 1, 1, none⟩ = some (.int .i64 n2) := HB4.out.cell 1
        have d0 : w4.cell? ⟨qz, 0, none⟩ = some (.bool z1) := HZ.out.cell 0
        have d1 : w4.cell? ⟨qz, 1, none⟩ = some (.int .i64 z2) := HZ.out.cell 1
        go_wp2_with fail
        refine HW9.out.mono ?_
        rintro e w5 ⟨rfl, he⟩
        clear c00 c01 c10 c11 c20 c21 c30 c31 c40 c41
        clear d0 d1 HW9
        have he5 := he.alloc (.cells #[.int .i64 y1, .int .i64 y2] 48)
        have HY := Lib.hid (Blk.new w5 48 #[.int .i64 y1, .int .i64 y2])
        have HX := Lib.hid (HX.out.trans he5)
        have HB0 := Lib.hid (HB0.out.ext he5)
        have HB1 := Lib.hid (HB1.out.ext he5)
        have HB2 := Lib.hid (HB2.out.ext he5)
        have HB3 := Lib.hid (HB3.out.ext he5)
        have HB4 := Lib.hid (HB4.out.ext he5)
        clear he5
        clear he
        go_upto_region 7 with fail
        obtain ⟨qy, hqy⟩ : ∃ q, q = w5.heap.size := ⟨_, rfl⟩
        rw [← hqy] at HY ⊢
        clear hqy
        generalize w5.alloc (.cells #[.int .i64 y1, .int .i64 y2] 48) = w6 at *
        have c00 : w6.cell? ⟨bn, 0, none⟩ = some (.slice A l.length c) := HB0.out.cell 0
        have c01 : w6.cell? ⟨bn, 1, none⟩ = some (.int .i64 out) := HB0.out.cell 1
        have c10 : w6.cell? ⟨bn + 1, 0, none⟩ = some (.int .i64 p1) := HB1.out.cell 0
        have c11 : w6.cell? ⟨bn + 1, 1, none⟩ = some (.int .i64 p2) := HB1.out.cell 1
        have c20 : w6.cell? ⟨bn + 1 + 1, 0, none⟩ = some (.int .i64 m1) := HB2.out.cell 0
        have c21 : w6.cell? ⟨bn + 1 + 1, 1, none⟩ = some (.int .i64 m2) := HB2.out.cell 1
        have c30 : w6.cell? ⟨bn + 1 + 1 + 1, 0, none⟩ = some (.int .i64 q1) := HB3.out.cell 0
        have c31 : w6.cell? ⟨bn + 1 + 1 + 1, 1, none⟩ = some (.int .i64 q2) := HB3.out.cell 1
        have c40 : w6.cell? ⟨bn + 1 + 1 + 1 + 1, 0, none⟩ = some (.int .i64 n1) := HB4.out.cell 0
        have c41 : w6.cell? ⟨bn + 1 + 1 + 1 + 1, 1, none⟩ = some (.int .i64 n2) := HB4.out.cell 1
        have d0 : w6.cell? ⟨qy, 0, none⟩ = some (.int .i64 y1) := HY.out.cell 0
        have d1 : w6.cell? ⟨qy, 1, none⟩ = some (.int .i64 y2) := HY.out.cell 1
        by_cases hye : ye = 0
        · have HR := Lib.hid (show LB = Mom.ahead (y1, y2) (n1, n2) from by rw [HL9.out]; simp [hye])
          have HA9 := Lib.hid (HAH.out (y1, y2) w6)
          generalize Mom.ahead (y1, y2) (n1, n2) = rr at *
          have t1 : (ye == 0) = true := by simpa using hye
          clear hye
          go_wp2_with fail
          refine HA9.out.mono ?_
          rintro e w7 ⟨rfl, he⟩
          have HX := Lib.hid (HX.out.trans he)
          clear c00 c01 c10 c11 c20 c21 c30 c31 c40 c41
          clear d0 d1 he
          go_wp2
          go_ret
          exact ⟨by rw [HR.out]; rfl, HX.out⟩
        · have HR := Lib.hid (show LB = false from by rw [HL9.out]; simp [hye])
          have t1 : (ye == 0) = false := by simpa using hye
          clear hye
          clear c00 c01 c10 c11 c20 c21 c30 c31 c40 c41
          go_wp2
          go_ret
          exact ⟨by rw [HR.out]; rfl, HX.out⟩
end Go.Proofs.Ytcacicgkebcdkaa
namespace Go.Proofs.Ytcacicgkebcdkaa
open Go.RowKit Go.Ox Go.Ox.Gr Go.ChangeShapes Go.WideShapes
section
variable {H : Type} {enc : TypeId × Value → H} {W : World} {base : Nat} {sp : Nat → Bool} {held : Bool} {v u : Value} {d : DataW H} {p : List MemPlace} {r : Reach} {b0 N : Nat}
theorem ints_eV {R : TypeId → Value → Prop} : ∀ (rows : List (List Value)), (∀ x ∈ rows, rowT R [.int .i64] x) → ∃ l : List Int, rows.length = l.length ∧ rows.flatten = eV l
  | [], _ => ⟨[], rfl, rfl⟩
  | r :: rows, h => by
    obtain ⟨l, h1, h2⟩ := ints_eV rows fun x hx => h x (List.mem_cons_of_mem _ hx)
    obtain ⟨n, cs, rfl, _, hr⟩ := rowT_int (h r (List.mem_cons_self ..))
    obtain rfl := rowT_nil hr
    exact ⟨n :: l, by simp [h1], by rw [List.flatten_cons, h2]; rfl⟩
theorem ints_of_was (h : Was enc Try.prog W base sp held N 41 u) : ∃ l : List Int, RE W u l := by
  obtain ⟨rows, hr, -, hx⟩ := Was.rows (n := 8) (ks := [.int .i64]) Try.underlying41 (by kernel_rfl) (by kernel_rfl) (by decide) h
  obtain ⟨l, h1, h2⟩ := ints_eV rows hx
  rw [h1, h2] at hr
  exact ⟨l, RE.mk hr⟩
theorem nodes_of_was : ∀ (N : Nat) (u : Value), Was enc Try.prog W base sp held N 22 u → ∃ l : List Nd, NodesR N W u l := by
  intro N
  induction N with
  | zero =>
    intro u h
    obtain ⟨rows, hr, h0, hx⟩ := Was.rows (n := 8) (ks := [.int .i64, .cell 41, .int .i64, .int .i64, .int .i64, .cell 22]) Try.underlying22 (by kernel_rfl) (by kernel_rfl) (by decide) h
    obtain rfl : rows = [] := h0.elim id fun h => absurd h (Nat.lt_irrefl _)
    exact ⟨[], ⟨[], hr, rfl, fun i r x hr => by simp at hr⟩⟩
  | succ N ih =>
    intro u h
    obtain ⟨rows, hr, h0, hx⟩ := Was.rows (n := 8) (ks := [.int .i64, .cell 41, .int .i64, .int .i64, .int .i64, .cell 22]) Try.underlying22 (by kernel_rfl) (by kernel_rfl) (by decide) h
    have each : ∀ r ∈ rows, r.length = 6 ∧ ∃ x : Nd, NdQ (NodesR N) W r x := fun r hr2 => by
      have hr := hx r hr2
      refine ⟨rowT_len hr, ?_⟩
      obtain ⟨op, cs, rfl, _, hr⟩ := rowT_int hr
      obtain ⟨u1, cs, rfl, hu1, hr⟩ := rowT_cell hr
      obtain ⟨kind, cs, rfl, _, hr⟩ := rowT_int hr
      obtain ⟨fa, cs, rfl, _, hr⟩ := rowT_int hr
      obtain ⟨a, cs, rfl, _, hr⟩ := rowT_int hr
      obtain ⟨u2, cs, rfl, hu2, hr⟩ := rowT_cell hr
      obtain rfl := rowT_nil hr
      obtain ⟨ins, hins⟩ := ints_of_was hu1
      obtain ⟨body, hbody⟩ := ih _ hu2
      exact ⟨.mk op ins kind fa a body, u1, u2, rfl, hins, hbody⟩
    obtain ⟨l, hl⟩ := RS.of_rows hr each
    exact ⟨l, NodesR.of_rs hl⟩
abbrev GArg := (Value × Nat) × G
theorem graphArg (hv : Value.okWide Try.prog W r b0 24 v) (h : DataW.Trod enc Try.prog W base sp held 24 v d p) :
    ∃ x : GArg, v = gAg x.1.1 x.2.2 ∧ NodesR x.1.2 W x.1.1 x.2.1 := by
  obtain ⟨cs, N, rfl, hr⟩ := struct_of_trodT (n := 8) (ks := [.cell 22, .int .i64]) (by kernel_rfl) Try.underlying24 hv h
  obtain ⟨u, cs, rfl, hu, hr⟩ := rowT_cell hr
  obtain ⟨out, cs, rfl, _, hr⟩ := rowT_int hr
  obtain rfl := rowT_nil hr
  obtain ⟨l, hl⟩ := nodes_of_was N u hu
  exact ⟨((u, N), l, out), rfl, hl⟩
theorem placeArg (hv : Value.okWide Try.prog W r b0 26 v) (h : DataW.Trod enc Try.prog W base sp held 26 v d p) :
    ∃ x : Pl, v = plV x := by
  obtain ⟨cs, N, rfl, hr⟩ := struct_of_trodT (n := 8) (ks := [.int .i64, .int .i64]) (by kernel_rfl) Try.underlying26 hv h
  obtain ⟨a, cs, rfl, _, hr⟩ := rowT_int hr
  obtain ⟨b, cs, rfl, _, hr⟩ := rowT_int hr
  obtain rfl := rowT_nil hr
  exact ⟨(a, b), rfl⟩
end
end Go.Proofs.Ytcacicgkebcdkaa
namespace Go.Proofs.Ytcacicgkebcdkaa.Mo
open Go.RowKit Go.Ox Go.ChangeShapes Go.WideShapes
section
variable {H : Type} {enc : TypeId × Value → H} {W : World} {base : Nat} {sp : Nat → Bool} {held : Bool} {v : Value} {d : DataW H} {p : List MemPlace} {r : Reach} {b0 : Nat}
theorem momArg (hv : Value.okWide Try.prog W r b0 48 v) (h : DataW.Trod enc Try.prog W base sp held 48 v d p) :
    ∃ x : Mom.M, v = mV x := by
  obtain ⟨cs, rfl, hr⟩ := struct_of_trod (n := 8) (ks := [.int .i64, .int .i64]) (by kernel_rfl) Try.underlying48 hv h
  obtain ⟨n, cs, rfl, _, hr⟩ := rowOk_int hr
  obtain ⟨m, cs, rfl, _, hr⟩ := rowOk_int hr
  obtain rfl := rowOk_nil hr
  exact ⟨(n, m), rfl⟩
end
end Go.Proofs.Ytcacicgkebcdkaa.Mo
namespace Go.Proofs.Ytcacicgkebcdkaa
open Go.RowKit Go.Ox Go.Ox.Gr
set_option maxHeartbeats 4000000 in
theorem rfnFamily (k a : Int) (w : World) : Calls Try.prog 64 #[fnV k a] w fun e w' => e = .returned (.int .i64 (fam k a)) ∧ Ext w w' := by
  have HX0 := Lib.hid ((Ext.refl w).alloc (.cells #[.int .i64 k, .int .i64 a] 43))
  have hb := Blk.new w 43 #[.int .i64 k, .int .i64 a]
  have c0 : (w.alloc (.cells #[.int .i64 k, .int .i64 a] 43)).cell? ⟨w.heap.size, 0, none⟩ = some (.int .i64 k) := hb.cell 0
  have c1 : (w.alloc (.cells #[.int .i64 k, .int .i64 a] 43)).cell? ⟨w.heap.size, 1, none⟩ = some (.int .i64 a) := hb.cell 1
  clear hb
  have hlo : 0 ≤ lst k ∧ mst k ≤ 1048575 := by
    unfold lst mst
    repeat' split
    all_goals omega
  by_cases h1 : a < 0
  · rw [show fam k a = 0 from if_pos (by omega)]
    clear hlo
    go_enter Try.func64, Try.ntmps64
    go_wp2
    go_ret
    exact ⟨rfl, HX0.out⟩
  by_cases h2 : 1048576 ≤ a
  · rw [show fam k a = 0 from if_pos (by omega)]
    clear hlo
    go_enter Try.func64, Try.ntmps64
    go_wp2
    go_ret
    exact ⟨rfl, HX0.out⟩
  clear hlo
  have ha : (a = 0 ∧ ¬ 1 ≤ a ∧ a ≤ 8) ∨ (¬ a = 0 ∧ 1 ≤ a ∧ a ≤ 8) ∨ (¬ a = 0 ∧ 1 ≤ a ∧ ¬ a ≤ 8) := by omega
  rcases kinds k with rfl | rfl | rfl | rfl | rfl | rfl | rfl | rfl | rfl | rfl | rfl | rfl | rfl | rfl | rfl | rfl | rfl | rfl | rfl | rfl | rfl | rfl | rfl | hk
  case' inr.inr.inr.inr.inr.inr.inr.inr.inr.inr.inr.inr.inr.inr.inr.inr.inr.inr.inr.inr.inr.inr.inr =>
    have e1 : fam k a = 0 := by unfold fam fk; rcases hk with hk | hk; rw [if_pos hk]; simp; rw [if_neg (show ¬ k < 1 by omega), if_neg (show ¬ k ≤ 8 by omega), if_neg (show ¬ k ≤ 12 by omega), if_neg (show ¬ k ≤ 15 by omega), if_neg (show ¬ k ≤ 19 by omega), if_neg (show ¬ k ≤ 23 by omega)]; simp
    rw [e1]
    clear e1
    have n1 : ¬ k = 1 := by omega
    have n2 : ¬ k = 2 := by omega
    have n3 : ¬ k = 3 := by omega
    have n4 : ¬ k = 4 := by omega
    have n5 : ¬ k = 5 := by omega
    have n6 : ¬ k = 6 := by omega
    have n7 : ¬ k = 7 := by omega
    have n8 : ¬ k = 8 := by omega
    have n9 : ¬ k = 9 := by omega
    have n10 : ¬ k = 10 := by omega
    have n11 : ¬ k = 11 := by omega
    have n12 : ¬ k = 12 := by omega
    have n13 : ¬ k = 13 := by omega
    have n14 : ¬ k = 14 := by omega
    have n15 : ¬ k = 15 := by omega
    have n16 : ¬ k = 16 := by omega
    have n17 : ¬ k = 17 := by omega
    have n18 : ¬ k = 18 := by omega
    have n19 : ¬ k = 19 := by omega
    have n20 : ¬ k = 20 := by omega
    have n21 : ¬ k = 21 := by omega
    have n22 : ¬ k = 22 := by omega
    have n23 : ¬ k = 23 := by omega
    clear hk
  all_goals
    rcases ha with ⟨rfl, g2, g3⟩ | ⟨g1, g2, g3⟩ | ⟨g1, g2, g3⟩
    all_goals
      go_enter Try.func64, Try.ntmps64
      go_wp2
      go_ret
      refine ⟨?_, HX0.out⟩
      first | rfl | (unfold fam lst mst fk; simp; omega)
set_option maxHeartbeats 400000 in
theorem rArity_any (k : Int) (w : World) : Calls Try.prog 62 #[.int .i64 k] w fun e w' => e = .returned (.int .i64 (arity k)) ∧ w = w' := by
  rcases ops11 k with rfl | rfl | rfl | rfl | rfl | rfl | rfl | rfl | rfl | rfl | rfl | hk
  case' inr.inr.inr.inr.inr.inr.inr.inr.inr.inr.inr =>
    have e1 : arity k = 0 := by unfold arity; repeat' rw [if_neg (by omega)]
    rw [e1]
    clear e1
    have n1 : ¬ k = 1 := by omega
    have n2 : ¬ k = 2 := by omega
    have n3 : ¬ k = 3 := by omega
    have n4 : ¬ k = 4 := by omega
    have n5 : ¬ k = 5 := by omega
    have n6 : ¬ k = 6 := by omega
    have n7 : ¬ k = 7 := by omega
    have n8 : ¬ k = 8 := by omega
    have n9 : ¬ k = 9 := by omega
    have n10 : ¬ k = 10 := by omega
    have n11 : ¬ k = 11 := by omega
    clear hk
  all_goals
    go_enter Try.func62, Try.ntmps62
    go_wp2
    go_ret
    exact ⟨rfl, rfl⟩
set_option maxHeartbeats 400000 in
theorem rfamily_any (k : Int) (w : World) : Calls Try.prog 63 #[.int .i64 k] w fun e w' => e = .returned (.int .i64 (fmly k)) ∧ w = w' := by
  rcases ops11 k with rfl | rfl | rfl | rfl | rfl | rfl | rfl | rfl | rfl | rfl | rfl | hk
  case' inr.inr.inr.inr.inr.inr.inr.inr.inr.inr.inr =>
    have e1 : fmly k = 0 := by unfold fmly; repeat' rw [if_neg (by omega)]
    rw [e1]
    clear e1
    have n1 : ¬ k = 1 := by omega
    have n2 : ¬ k = 2 := by omega
    have n3 : ¬ k = 3 := by omega
    have n4 : ¬ k = 4 := by omega
    have n5 : ¬ k = 5 := by omega
    have n6 : ¬ k = 6 := by omega
    have n7 : ¬ k = 7 := by omega
    have n8 : ¬ k = 8 := by omega
    have n9 : ¬ k = 9 := by omega
    have n10 : ¬ k = 10 := by omega
    have n11 : ¬ k = 11 := by omega
    clear hk
  all_goals
    go_enter Try.func63, Try.ntmps63
    go_wp2
    go_ret
    exact ⟨rfl, rfl⟩
end Go.Proofs.Ytcacicgkebcdkaa
namespace Go.Proofs.Ytcacicgkebcdkaa
open Go.RowKit Go.Ox Go.Ox.Gr
theorem insOk_s (ins : List Int) (i : Nat) {k : Nat} (h : k < ins.length) : insOk (ins.take (k + 1)) i = (insOk (ins.take k) i && ahB ins[k] i) := by
  unfold insOk ahB
  rw [List.take_succ_eq_append_getElem h, List.all_append]
  simp
theorem insOk_no (ins : List Int) (i : Nat) {k : Nat} (h : k < ins.length) (hx : ¬ (0 ≤ ins[k] ∧ ins[k] < (i : Int))) : insOk ins i = false := by
  cases hi : insOk ins i with
  | false => rfl
  | true =>
    unfold insOk at hi
    have := List.all_eq_true.1 hi ins[k] (List.getElem_mem h)
    simp only [Bool.and_eq_true, decide_eq_true_eq] at this
    exact absurd this hx
end Go.Proofs.Ytcacicgkebcdkaa
