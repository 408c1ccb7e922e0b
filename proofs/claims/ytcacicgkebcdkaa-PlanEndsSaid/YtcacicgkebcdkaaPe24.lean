/-
  GrNodeAt2, packed: what the claim needs of them.
-/
import Derived.Test.YtcacicgkebcdkaaPe16
set_option linter.unusedSimpArgs false
set_option linter.unusedVariables false
set_option maxRecDepth 100000
namespace Go.Proofs.Ytcacicgkebcdkaa
open Go.RowKit Go.Ox Go.Ox.Gr
attribute [local irreducible] RE OE NodesR
set_option maxHeartbeats 4000000 in
theorem gNode_in (d : Nat) (v : Value) (l : List Nd) (out : Int) (i : Nat) (j : Nat) (op kind fa a : Int) (ins : List Int) (body : List Nd) (w : World) (hv : NodesR d w v l) (hok : gOk (l, out) = true) (hn : l[i]? = some (.mk op ins kind fa a body)) (mop mkind mfa ma : Int) (mins : List Int) (mbody : List Nd) (hm : body[j]? = some (.mk mop mins mkind mfa ma mbody)) :
    Calls Try.prog 44 #[gAg v out, plV ((i : Int), (j : Int))] w fun e w' => ∃ u, e = .returned (.tuple #[ndAg mop mkind mfa ma u (.slice none 0 0), .bool true]) ∧ RE w' u mins ∧ Ext w w' := by
  obtain ⟨hi, hx⟩ := List.getElem?_eq_some_iff.1 hn
  have hnd := gOk_nd hok (List.getElem_mem hi)
  rw [hx] at hnd
  have HND2 := Lib.hid (show ins.length ≤ 2 ∧ body.length ≤ 32 ∧ ∀ m ∈ body, m.body = [] ∧ m.ins.length ≤ 2 from hnd)
  have HXX := Lib.hid hx
  clear hnd hn
  obtain ⟨A, c, rfl⟩ := hv.form
  have HX0 := Lib.hid ((((Ext.refl w).alloc (gCs (.slice A l.length c) out)).alloc (plCs (i : Int) (j : Int))).alloc (ndCs 0 0 0 0 (.slice none 0 0) (.slice none 0 0)))
  have HB0 := Lib.hid (show BN3 (((w.alloc (gCs (.slice A l.length c) out)).alloc (plCs (i : Int) (j : Int))).alloc (ndCs 0 0 0 0 (.slice none 0 0) (.slice none 0 0))) w.heap.size (.slice A l.length c) out (i : Int) (j : Int) from BN3.new w (.slice A l.length c) out (i : Int) (j : Int))
  have HCK := Lib.hid (fun w h => gCheck_any d (.slice A l.length c) l out w h)
  rw [show gE (l, out) = 0 from if_pos hok] at HCK
  have HV := Lib.hid (hv.ext HX0.out)
  have g0 : ¬ (i : Int) < 0 := by omega
  have g1 : ¬ (l.length : Int) ≤ (i : Int) := by omega
  have g1b : (i : Int) < (l.length : Int) := by omega
  have g1c : 0 ≤ (i : Int) := by omega
  have g1n : i < l.length := hi
  have HI := Lib.hid hi
  have HM := Lib.hid hm
  clear hv hok hx hm
  go_enter Try.func44, Try.ntmps44
  go_upto_region 1 with fail
  obtain ⟨p, hp⟩ : ∃ p, p = w.heap.size := ⟨_, rfl⟩
  rw [← hp] at HB0 ⊢
  have HP := Lib.hid hp
  clear hp
  generalize ((w.alloc (gCs (.slice A l.length c) out)).alloc (plCs (i : Int) (j : Int))).alloc (ndCs 0 0 0 0 (.slice none 0 0) (.slice none 0 0)) = w0 at *
  obtain ⟨a0, a1, a2, a3⟩ := HB0.out.cells
  go_wp2_with fail
  refine (HCK.out _ HV.out).mono ?_
  rintro e w1 ⟨rfl, he1⟩
  have HX1 := Lib.hid (HX0.out.trans he1)
  have HB1 := Lib.hid (HB0.out.ext he1)
  have HV1 := Lib.hid (HV.out.ext he1)
  clear he1 a0 a1 a2 a3
  obtain ⟨a0, a1, a2, a3⟩ := HB1.out.cells
  obtain ⟨bA, oA, u, bv, rfl, e0, e1, e2, e3, e4, e5, hu, hbv⟩ := HV1.out.at_ HI.out
  have hj1 : ¬ (j : Int) < -1 := by omega
  have hjm : ((j : Int) == -1) = false := by simp <;> omega
  rw [HXX.out] at e0 e2 e3 e4 hu hbv
  simp only [Nd.op, Nd.kind, Nd.fa, Nd.a, Nd.ins, Nd.body] at e0 e2 e3 e4 hu hbv
  obtain ⟨Au, cu, rfl⟩ := hu.form
  obtain ⟨Ab, cb, rfl⟩ := hbv.form
  have hxn := (Ext.refl w1).alloc (ndCs op kind fa a (.slice Au ins.length cu) (.slice Ab body.length cb))
  have HX2 := Lib.hid (HX1.out.trans hxn)
  have HB2 := Lib.hid (HB1.out.ext hxn)
  have HN2 := Lib.hid (Bx6.new w1 45 (.int .i64 op) (.slice Au ins.length cu) (.int .i64 kind) (.int .i64 fa) (.int .i64 a) (.slice Ab body.length cb))
  have HU2 := Lib.hid (hu.ext hxn)
  have HW2 := Lib.hid (hbv.ext hxn)
  have HQ := Lib.hid (show p + 1 + 1 < w1.heap.size from HB1.out.r.b.lt)
  clear hxn hu hbv HV HV1
  go_upto_region 4 with fail
  clear e0 e1 e2 e3 e4 e5 a0 a1 a2 a3
  generalize w1.heap.size = q at *
  generalize w1.alloc (ndCs op kind fa a (.slice Au ins.length cu) (.slice Ab body.length cb)) = w2 at *
  obtain ⟨a0, a1, a2, a3⟩ := HB2.out.cells
  obtain ⟨n0, n1, n2, n3, n4, n5⟩ := HN2.out.at_
  obtain ⟨hjl, hmx⟩ := List.getElem?_eq_some_iff.1 HM.out
  have hjn : j < body.length := hjl
  have hjb : (j : Int) < (body.length : Int) := by omega
  have hjb2 : ¬ (body.length : Int) ≤ (j : Int) := by omega
  have hj0 : 0 ≤ (j : Int) := by omega
  obtain ⟨bB, oB, mu, mb, rfl, m0, m1, m2, m3, m4, m5, hmu, hmb⟩ := HW2.out.at_ hjl
  obtain ⟨hz, hmi⟩ := HND2.out.2.2 body[j] (List.getElem_mem hjl)
  rw [hmx] at m0 m2 m3 m4 hmu hmb hz hmi
  simp only [Nd.op, Nd.kind, Nd.fa, Nd.a, Nd.ins, Nd.body] at m0 m2 m3 m4 hmu hmb hz hmi
  subst hz
  have HC := Lib.hid (clone0_any mop mkind mfa ma mu mb mins _ w2 hmu hmb (by omega))
  obtain ⟨Am, cm, rfl⟩ := hmu.form
  obtain ⟨Ax, cx, rfl⟩ : ∃ A c, mb = .slice A 0 c := hmb.form
  clear hmu hmb hmx hjl
  go_wp2_with fail
  refine HC.out.mono ?_
  rintro e w3 ⟨u', rfl, ho3, he3⟩
  have HE3 := Lib.hid he3
  have HO3 := Lib.hid ho3
  have HQ2 := Lib.hid HB2.out.r.b.lt
  obtain ⟨A3, c3, rfl⟩ := ho3.re.form
  clear he3 ho3 m0 m1 m2 m3 m4 m5
  have HB3 := Lib.hid (HB2.out.ext HE3.out)
  clear a0 a1 a2 a3 n0 n1 n2 n3 n4 n5
  obtain ⟨⟨r0, r1, r2, r3, r4, r5⟩, f0, f1, f2, f3, f4, f5⟩ := HB3.out.rcells
  have HF := Lib.hid (HB3.out.r.fill (.int .i64 mop) (.slice A3 mins.length c3) (.int .i64 mkind) (.int .i64 mfa) (.int .i64 ma) (.slice none 0 0))
  have HXQ := Lib.hid (extQ6 (ExtQ.refl (fun k => k = p + 1 + 1) w3) (q := p + 1 + 1) rfl (.int .i64 mop) (.slice A3 mins.length c3) (.int .i64 mkind) (.int .i64 mfa) (.int .i64 ma) (.slice none 0 0))
  have HX4 := Lib.hid ((HX2.out.trans HE3.out).andQ HXQ.out (fun g hg => by have h1 := HP.out; omega))
  go_wp2
  generalize (((((w3.setCell ⟨p + 1 + 1, 0, none⟩ (.int .i64 mop)).setCell ⟨p + 1 + 1, 1, none⟩ (.slice A3 mins.length c3)).setCell ⟨p + 1 + 1, 2, none⟩ (.int .i64 mkind)).setCell ⟨p + 1 + 1, 3, none⟩ (.int .i64 mfa)).setCell ⟨p + 1 + 1, 4, none⟩ (.int .i64 ma)).setCell ⟨p + 1 + 1, 5, none⟩ (.slice none 0 0) = wz at *
  obtain ⟨y0, y1, y2, y3, y4, y5⟩ := HF.out.at_
  exact bodyPost_ret (v := .tuple #[ndAg mop mkind mfa ma (.slice A3 mins.length c3) (.slice none 0 0), .bool true]) (by simp [results, Try.results44, go_sem, y0, y1, y2, y3, y4, y5]) rfl ⟨_, rfl, (OE.mk (ownsRow_extQ HO3.out.own HXQ.out fun g hg q => by have h1 := HO3.out.lt hg; have h2 := HQ2.out; omega)).re, HX4.out⟩
set_option maxHeartbeats 4000000 in
theorem gNode_top (d : Nat) (v : Value) (l : List Nd) (out : Int) (i : Nat) (op kind fa a : Int) (ins : List Int) (body : List Nd) (w : World) (hv : NodesR d w v l) (hok : gOk (l, out) = true) (hn : l[i]? = some (.mk op ins kind fa a body)) :
    Calls Try.prog 44 #[gAg v out, plV ((i : Int), (-1))] w fun e w' => ∃ u b, e = .returned (.tuple #[ndAg op kind fa a u b, .bool true]) ∧ RE w' u ins ∧ NodesR 1 w' b body ∧ Ext w w' := by
  obtain ⟨hi, hx⟩ := List.getElem?_eq_some_iff.1 hn
  have hnd := gOk_nd hok (List.getElem_mem hi)
  rw [hx] at hnd
  have HND2 := Lib.hid (show ins.length ≤ 2 ∧ body.length ≤ 32 ∧ ∀ m ∈ body, m.body = [] ∧ m.ins.length ≤ 2 from hnd)
  have HXX := Lib.hid hx
  clear hnd hn
  obtain ⟨A, c, rfl⟩ := hv.form
  have HX0 := Lib.hid ((((Ext.refl w).alloc (gCs (.slice A l.length c) out)).alloc (plCs (i : Int) (-1))).alloc (ndCs 0 0 0 0 (.slice none 0 0) (.slice none 0 0)))
  have HB0 := Lib.hid (show BN3 (((w.alloc (gCs (.slice A l.length c) out)).alloc (plCs (i : Int) (-1))).alloc (ndCs 0 0 0 0 (.slice none 0 0) (.slice none 0 0))) w.heap.size (.slice A l.length c) out (i : Int) (-1) from BN3.new w (.slice A l.length c) out (i : Int) (-1))
  have HCK := Lib.hid (fun w h => gCheck_any d (.slice A l.length c) l out w h)
  rw [show gE (l, out) = 0 from if_pos hok] at HCK
  have HV := Lib.hid (hv.ext HX0.out)
  have g0 : ¬ (i : Int) < 0 := by omega
  have g1 : ¬ (l.length : Int) ≤ (i : Int) := by omega
  have g1b : (i : Int) < (l.length : Int) := by omega
  have g1c : 0 ≤ (i : Int) := by omega
  have g1n : i < l.length := hi
  have HI := Lib.hid hi
  clear hv hok hx
  go_enter Try.func44, Try.ntmps44
  go_upto_region 1 with fail
  obtain ⟨p, hp⟩ : ∃ p, p = w.heap.size := ⟨_, rfl⟩
  rw [← hp] at HB0 ⊢
  have HP := Lib.hid hp
  clear hp
  generalize ((w.alloc (gCs (.slice A l.length c) out)).alloc (plCs (i : Int) (-1))).alloc (ndCs 0 0 0 0 (.slice none 0 0) (.slice none 0 0)) = w0 at *
  obtain ⟨a0, a1, a2, a3⟩ := HB0.out.cells
  go_wp2_with fail
  refine (HCK.out _ HV.out).mono ?_
  rintro e w1 ⟨rfl, he1⟩
  have HX1 := Lib.hid (HX0.out.trans he1)
  have HB1 := Lib.hid (HB0.out.ext he1)
  have HV1 := Lib.hid (HV.out.ext he1)
  clear he1 a0 a1 a2 a3
  obtain ⟨a0, a1, a2, a3⟩ := HB1.out.cells
  obtain ⟨bA, oA, u, bv, rfl, e0, e1, e2, e3, e4, e5, hu, hbv⟩ := HV1.out.at_ HI.out
  rw [HXX.out] at e0 e2 e3 e4 hu hbv
  simp only [Nd.op, Nd.kind, Nd.fa, Nd.a, Nd.ins, Nd.body] at e0 e2 e3 e4 hu hbv
  obtain ⟨Au, cu, rfl⟩ := hu.form
  obtain ⟨Ab, cb, rfl⟩ := hbv.form
  have hxn := (Ext.refl w1).alloc (ndCs op kind fa a (.slice Au ins.length cu) (.slice Ab body.length cb))
  have HX2 := Lib.hid (HX1.out.trans hxn)
  have HB2 := Lib.hid (HB1.out.ext hxn)
  have HN2 := Lib.hid (Bx6.new w1 45 (.int .i64 op) (.slice Au ins.length cu) (.int .i64 kind) (.int .i64 fa) (.int .i64 a) (.slice Ab body.length cb))
  have HU2 := Lib.hid (hu.ext hxn)
  have HW2 := Lib.hid (hbv.ext hxn)
  have HQ := Lib.hid (show p + 1 + 1 < w1.heap.size from HB1.out.r.b.lt)
  clear hxn hu hbv HV HV1
  go_upto_region 4 with fail
  clear e0 e1 e2 e3 e4 e5 a0 a1 a2 a3
  generalize w1.heap.size = q at *
  generalize w1.alloc (ndCs op kind fa a (.slice Au ins.length cu) (.slice Ab body.length cb)) = w2 at *
  obtain ⟨a0, a1, a2, a3⟩ := HB2.out.cells
  obtain ⟨n0, n1, n2, n3, n4, n5⟩ := HN2.out.at_
  go_wp2_with fail
  refine (clone1_any op kind fa a (.slice Au ins.length cu) (.slice Ab body.length cb) ins body _ w2 HU2.out HW2.out (by have := HND2.out.1; omega) (by have := HND2.out.2.1; omega) (fun m hm => ⟨(HND2.out.2.2 m hm).1, by have := (HND2.out.2.2 m hm).2; omega⟩)).mono ?_
  rintro e w3 ⟨u', b', rfl, hst, he3⟩
  have HE3 := Lib.hid he3
  have HST := Lib.hid hst
  have HQ2 := Lib.hid HB2.out.r.b.lt
  obtain ⟨A3, c3, rfl⟩ := (hst w3 (ExtQ.refl _ _)).1.form
  obtain ⟨A4, c4, rfl⟩ := (hst w3 (ExtQ.refl _ _)).2.form
  clear he3 hst
  have HB3 := Lib.hid (HB2.out.ext HE3.out)
  clear a0 a1 a2 a3 n0 n1 n2 n3 n4 n5
  obtain ⟨⟨r0, r1, r2, r3, r4, r5⟩, f0, f1, f2, f3, f4, f5⟩ := HB3.out.rcells
  have HF := Lib.hid (HB3.out.r.fill (.int .i64 op) (.slice A3 ins.length c3) (.int .i64 kind) (.int .i64 fa) (.int .i64 a) (.slice A4 body.length c4))
  have HXQ := Lib.hid (extQ6 (ExtQ.refl (fun k => k = p + 1 + 1) w3) (q := p + 1 + 1) rfl (.int .i64 op) (.slice A3 ins.length c3) (.int .i64 kind) (.int .i64 fa) (.int .i64 a) (.slice A4 body.length c4))
  have HX4 := Lib.hid ((HX2.out.trans HE3.out).andQ HXQ.out (fun g hg => by have h1 := HP.out; omega))
  go_wp2
  generalize (((((w3.setCell ⟨p + 1 + 1, 0, none⟩ (.int .i64 op)).setCell ⟨p + 1 + 1, 1, none⟩ (.slice A3 ins.length c3)).setCell ⟨p + 1 + 1, 2, none⟩ (.int .i64 kind)).setCell ⟨p + 1 + 1, 3, none⟩ (.int .i64 fa)).setCell ⟨p + 1 + 1, 4, none⟩ (.int .i64 a)).setCell ⟨p + 1 + 1, 5, none⟩ (.slice A4 body.length c4) = wz at *
  obtain ⟨y0, y1, y2, y3, y4, y5⟩ := HF.out.at_
  exact bodyPost_ret (v := .tuple #[ndAg op kind fa a (.slice A3 ins.length c3) (.slice A4 body.length c4), .bool true]) (by simp [results, Try.results44, go_sem, y0, y1, y2, y3, y4, y5]) rfl ⟨_, _, rfl, (HST.out _ (HXQ.out.mono fun g hg => by have h1 := HQ2.out; omega)).1, (HST.out _ (HXQ.out.mono fun g hg => by have h1 := HQ2.out; omega)).2, HX4.out⟩
set_option maxHeartbeats 4000000 in
theorem gNode_out (d : Nat) (v : Value) (l : List Nd) (out : Int) (i : Nat) (j : Int) (op kind fa a : Int) (ins : List Int) (body : List Nd) (w : World) (hv : NodesR d w v l) (hok : gOk (l, out) = true) (hn : l[i]? = some (.mk op ins kind fa a body)) (hj : 0 ≤ j ∧ (body.length : Int) ≤ j) :
    Calls Try.prog 44 #[gAg v out, plV ((i : Int), j)] w fun e w' => e = .returned (.tuple #[nd0V, .bool false]) ∧ Ext w w' := by
  obtain ⟨hi, hx⟩ := List.getElem?_eq_some_iff.1 hn
  have hnd := gOk_nd hok (List.getElem_mem hi)
  rw [hx] at hnd
  have HND2 := Lib.hid (show ins.length ≤ 2 ∧ body.length ≤ 32 ∧ ∀ m ∈ body, m.body = [] ∧ m.ins.length ≤ 2 from hnd)
  have HXX := Lib.hid hx
  clear hnd hn
  obtain ⟨A, c, rfl⟩ := hv.form
  have HX0 := Lib.hid ((((Ext.refl w).alloc (gCs (.slice A l.length c) out)).alloc (plCs (i : Int) j)).alloc (ndCs 0 0 0 0 (.slice none 0 0) (.slice none 0 0)))
  have HB0 := Lib.hid (show BN3 (((w.alloc (gCs (.slice A l.length c) out)).alloc (plCs (i : Int) j)).alloc (ndCs 0 0 0 0 (.slice none 0 0) (.slice none 0 0))) w.heap.size (.slice A l.length c) out (i : Int) j from BN3.new w (.slice A l.length c) out (i : Int) j)
  have HCK := Lib.hid (fun w h => gCheck_any d (.slice A l.length c) l out w h)
  rw [show gE (l, out) = 0 from if_pos hok] at HCK
  have HV := Lib.hid (hv.ext HX0.out)
  have g0 : ¬ (i : Int) < 0 := by omega
  have g1 : ¬ (l.length : Int) ≤ (i : Int) := by omega
  have g1b : (i : Int) < (l.length : Int) := by omega
  have g1c : 0 ≤ (i : Int) := by omega
  have g1n : i < l.length := hi
  have HI := Lib.hid hi
  have HJ := Lib.hid hj
  clear hv hok hx hj
  go_enter Try.func44, Try.ntmps44
  go_upto_region 1 with fail
  obtain ⟨p, hp⟩ : ∃ p, p = w.heap.size := ⟨_, rfl⟩
  rw [← hp] at HB0 ⊢
  have HP := Lib.hid hp
  clear hp
  generalize ((w.alloc (gCs (.slice A l.length c) out)).alloc (plCs (i : Int) j)).alloc (ndCs 0 0 0 0 (.slice none 0 0) (.slice none 0 0)) = w0 at *
  obtain ⟨a0, a1, a2, a3⟩ := HB0.out.cells
  go_wp2_with fail
  refine (HCK.out _ HV.out).mono ?_
  rintro e w1 ⟨rfl, he1⟩
  have HX1 := Lib.hid (HX0.out.trans he1)
  have HB1 := Lib.hid (HB0.out.ext he1)
  have HV1 := Lib.hid (HV.out.ext he1)
  clear he1 a0 a1 a2 a3
  obtain ⟨a0, a1, a2, a3⟩ := HB1.out.cells
  obtain ⟨bA, oA, u, bv, rfl, e0, e1, e2, e3, e4, e5, hu, hbv⟩ := HV1.out.at_ HI.out
  have hj0 : 0 ≤ j := HJ.out.1
  have hj1 : ¬ j < -1 := by omega
  have hjm : (j == -1) = false := by simp; omega
  have HJ1 := Lib.hid (show (body.length : Int) ≤ j from HJ.out.2)
  rw [HXX.out] at e0 e2 e3 e4 hu hbv
  simp only [Nd.op, Nd.kind, Nd.fa, Nd.a, Nd.ins, Nd.body] at e0 e2 e3 e4 hu hbv
  obtain ⟨Au, cu, rfl⟩ := hu.form
  obtain ⟨Ab, cb, rfl⟩ := hbv.form
  have hxn := (Ext.refl w1).alloc (ndCs op kind fa a (.slice Au ins.length cu) (.slice Ab body.length cb))
  have HX2 := Lib.hid (HX1.out.trans hxn)
  have HB2 := Lib.hid (HB1.out.ext hxn)
  have HN2 := Lib.hid (Bx6.new w1 45 (.int .i64 op) (.slice Au ins.length cu) (.int .i64 kind) (.int .i64 fa) (.int .i64 a) (.slice Ab body.length cb))
  have HU2 := Lib.hid (hu.ext hxn)
  have HW2 := Lib.hid (hbv.ext hxn)
  have HQ := Lib.hid (show p + 1 + 1 < w1.heap.size from HB1.out.r.b.lt)
  clear hxn hu hbv HV HV1
  go_upto_region 4 with fail
  clear e0 e1 e2 e3 e4 e5 a0 a1 a2 a3
  generalize w1.heap.size = q at *
  generalize w1.alloc (ndCs op kind fa a (.slice Au ins.length cu) (.slice Ab body.length cb)) = w2 at *
  obtain ⟨a0, a1, a2, a3⟩ := HB2.out.cells
  obtain ⟨n0, n1, n2, n3, n4, n5⟩ := HN2.out.at_
  have hjb := HJ1.out
  obtain ⟨w3, hw3⟩ : ∃ w3, w3 = w2 := ⟨_, rfl⟩
  have HE3 := Lib.hid (show Ext w2 w3 by rw [hw3]; exact Ext.refl _)
  subst hw3
  have HB3 := Lib.hid (HB2.out.ext HE3.out)
  obtain ⟨⟨r0, r1, r2, r3, r4, r5⟩, f0, f1, f2, f3, f4, f5⟩ := HB3.out.rcells
  have HF := Lib.hid (HB3.out.r.fill (.int .i64 0) (.slice none 0 0) (.int .i64 0) (.int .i64 0) (.int .i64 0) (.slice none 0 0))
  have HXQ := Lib.hid (extQ6 (ExtQ.refl (fun k => k = p + 1 + 1) w3) (q := p + 1 + 1) rfl (.int .i64 0) (.slice none 0 0) (.int .i64 0) (.int .i64 0) (.int .i64 0) (.slice none 0 0))
  have HX4 := Lib.hid ((HX2.out.trans HE3.out).andQ HXQ.out (fun g hg => by have h1 := HP.out; omega))
  go_wp2
  generalize (((((w3.setCell ⟨p + 1 + 1, 0, none⟩ (.int .i64 0)).setCell ⟨p + 1 + 1, 1, none⟩ (.slice none 0 0)).setCell ⟨p + 1 + 1, 2, none⟩ (.int .i64 0)).setCell ⟨p + 1 + 1, 3, none⟩ (.int .i64 0)).setCell ⟨p + 1 + 1, 4, none⟩ (.int .i64 0)).setCell ⟨p + 1 + 1, 5, none⟩ (.slice none 0 0) = wz at *
  obtain ⟨y0, y1, y2, y3, y4, y5⟩ := HF.out.at_
  exact bodyPost_ret (v := .tuple #[ndAg 0 0 0 0 (.slice none 0 0) (.slice none 0 0), .bool false]) (by simp [results, Try.results44, go_sem, y0, y1, y2, y3, y4, y5]) rfl ⟨rfl, HX4.out⟩
end Go.Proofs.Ytcacicgkebcdkaa
