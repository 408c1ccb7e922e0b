/-
  PlRef2, PlEq2, packed: what the claim needs of them.
-/
import Derived.Test.YtcacicgkebcdkaaPw35
import Derived.Test.YtcacicgkebcdkaaPw25
import Derived.BigRegion
import Derived.Test.YtcacicgkebcdkaaPw16
import Derived.Test.YtcacicgkebcdkaaPw20
set_option linter.unusedSimpArgs false
set_option linter.unusedVariables false
set_option maxRecDepth 100000
namespace Go.Ox.Pl
open Go.Ox.Gr Go.Proofs.Ytcacicgkebcdkaa
def arcR1 (g : G) (p q : P2) : Option Ar := (arcF g p q).map fun w => ((p, q), w)
theorem arcsR_eq (g : G) (p : P2) : arcsR g p = (gPl g).filterMap (arcR1 g p) := rfl
theorem arcsR_len (g : G) (p : P2) : (arcsR g p).length ≤ (gPl g).length := by rw [arcsR_eq]; exact List.length_filterMap_le _ _
theorem flat_le {α β : Type} (f : α → List β) (n : Nat) : ∀ (l : List α), (∀ a ∈ l, (f a).length ≤ n) → (l.flatMap f).length ≤ l.length * n
  | [], _ => by simp
  | a :: l, h => by
    have h1 := flat_le f n l fun b hb => h b (by simp [hb])
    have h2 := h a (by simp)
    rw [List.flatMap_cons, List.length_append, List.length_cons, Nat.succ_mul]
    omega
def large (g : G) : Bool := largeB g.1 || decide (20 < (places g.1).length)
theorem large_no {g : G} (h : large g = false) : (gPl g).length ≤ 20 := by
  unfold large at h
  rw [Bool.or_eq_false_iff, decide_eq_false_iff_not] at h
  unfold gPl
  split
  · omega
  · simp
end Go.Ox.Pl
namespace Go.Proofs.Ytcacicgkebcdkaa
open Go.RowKit Go.Ox Go.Ox.Gr Mo
attribute [local irreducible] RE OE NodesR
theorem Blk.fill2 {w : World} {p : Nat} {T : TypeId} {a b : Value} (h : Blk w p T #[a, b]) (u v : Value) : Blk ((w.setCell ⟨p, 0, none⟩ u).setCell ⟨p, 1, none⟩ v) p T #[u, v] := by
  have := (h.set_ 0 u).set_ 1 v
  simpa using this
set_option maxHeartbeats 4000000 in
theorem rplace_any (d : Nat) (v : Value) (g : G) (p : Pl.P2) (w : World) (hv : NodesR d w v g.1) (hok : gOk g = true) :
    Calls Try.prog 19 #[gAg v g.2, plV p] w fun e w' => e = .returned (.bool (gNd g p).isSome) ∧ Ext w w' := by
  have HND := Lib.hid (fun W (h : Ext w W) => rNode_any d v g p W (hv.ext h) hok)
  obtain ⟨l, out⟩ := g
  simp only at HND hv
  generalize (gNd (l, out) p).getD default = nd at *
  generalize (gNd (l, out) p).isSome = sp at *
  obtain ⟨A, c, rfl⟩ := hv.form
  obtain ⟨p1, p2⟩ := p
  obtain ⟨op, ins, kind, fa, a, body⟩ := nd
  have HX0 := Lib.hid (((Ext.refl w).alloc (gCs (.slice A l.length c) out)).alloc (.cells #[.int .i64 p1, .int .i64 p2] 26))
  have HB0 := Lib.hid ((Blk.new w 24 #[.slice A l.length c, .int .i64 out]).ext ((Ext.refl _).alloc (.cells #[.int .i64 p1, .int .i64 p2] 26)))
  have HP0 := Lib.hid (Blk.new (w.alloc (gCs (.slice A l.length c) out)) 26 #[.int .i64 p1, .int .i64 p2])
  clear hv hok
  go_enter Try.func19, Try.ntmps19
  go_upto_region 1 with fail
  have hq1 : (w.alloc (gCs (.slice A l.length c) out)).heap.size = w.heap.size + 1 := by simp
  rw [hq1] at HP0
  clear hq1
  generalize w.heap.size = n at *
  generalize (w.alloc (gCs (.slice A l.length c) out)).alloc (.cells #[.int .i64 p1, .int .i64 p2] 26) = w0 at *
  have c0 : w0.cell? ⟨n, 0, none⟩ = some (.slice A l.length c) := HB0.out.cell 0
  have c1 : w0.cell? ⟨n, 1, none⟩ = some (.int .i64 out) := HB0.out.cell 1
  have c2 : w0.cell? ⟨n + 1, 0, none⟩ = some (.int .i64 p1) := HP0.out.cell 0
  have c3 : w0.cell? ⟨n + 1, 1, none⟩ = some (.int .i64 p2) := HP0.out.cell 1
  go_wp2_with fail
  refine (HND.out w0 HX0.out).mono ?_
  rintro e w1 ⟨u9, b9, rfl, hu9, hb9, he1⟩
  simp only [Nd.op, Nd.kind, Nd.fa, Nd.a, Nd.ins, Nd.body] at hu9 hb9 ⊢
  obtain ⟨A9, c9, rfl⟩ := hu9.form
  obtain ⟨A8, c8, rfl⟩ := hb9.form
  have hx2 := he1.alloc (ndCs op kind fa a (.slice A9 ins.length c9) (.slice A8 body.length c8))
  have HX2 := Lib.hid (HX0.out.trans hx2)
  clear hu9 hb9 he1 hx2 c0 c1 c2 c3 HX0 HB0 HP0
  go_wp2
  go_ret
  exact ⟨rfl, HX2.out⟩
theorem large20_any (d : Nat) (v : Value) (g : G) (w : World) (hv : NodesR d w v g.1) :
    Calls Try.prog 7 #[gAg v g.2] w fun e w' => e = .returned (.bool (Pl.large g)) ∧ Ext w w' := by
  obtain ⟨l, out⟩ := g
  have HD := Lib.hid (fun W (h : Ext w W) => deep_any 4 0 d v l W (by omega) (by omega) (hv.ext h))
  have HPL := Lib.hid (fun (h : deepB 4 l = false) W (hW : Ext w W) => rPlaces_any d v l out W (hv.ext hW) (by have := (deep_ok h).1; omega) (fun n hn => by have := deep_body h hn; omega))
  have HLG := Lib.hid (show Pl.large (l, out) = (deepB 4 l || decide (20 < (places l).length)) from rfl)
  simp only at hv
  generalize Pl.large (l, out) = LG at *
  generalize places l = pls at *
  obtain ⟨A, c, rfl⟩ := hv.form
  have HX0 := Lib.hid ((Ext.refl w).alloc (gCs (.slice A l.length c) out))
  have HB0 := Lib.hid (Blk.new w 24 #[.slice A l.length c, .int .i64 out])
  clear hv
  go_enter Try.func7, Try.ntmps7
  go_upto_region 1 with fail
  generalize w.heap.size = p at *
  generalize w.alloc (gCs (.slice A l.length c) out) = w0 at *
  have c0 : w0.cell? ⟨p, 0, none⟩ = some (.slice A l.length c) := HB0.out.cell 0
  have c1 : w0.cell? ⟨p, 1, none⟩ = some (.int .i64 out) := HB0.out.cell 1
  obtain ⟨db, hdb⟩ : ∃ db, deepB 4 l = db := ⟨_, rfl⟩
  rw [hdb] at HD HPL HLG
  cases db with
  | true =>
    go_wp2_with fail
    refine (HD.out w0 HX0.out).mono ?_
    rintro e w' ⟨rfl, rfl⟩
    go_wp2
    go_ret
    exact ⟨by rw [HLG.out]; rfl, HX0.out⟩
  | false =>
    go_wp2_with fail
    refine (HD.out w0 HX0.out).mono ?_
    rintro e w' ⟨rfl, rfl⟩
    go_wp2_with fail
    refine (HPL.out (by trivial) w0 HX0.out).mono ?_
    rintro e w1 ⟨u, rfl, hu, he⟩
    obtain ⟨A1, k1, rfl⟩ := hu.re.form
    have HX1 := Lib.hid (HX0.out.trans he)
    clear hu he c0 c1
    by_cases h20 : 20 < pls.length
    · have g2 : (20 : Int) < (pls.length : Int) := by omega
      have HR := Lib.hid (show LG = true from by rw [HLG.out, decide_eq_true h20]; rfl)
      clear h20
      go_wp2
      go_ret
      exact ⟨by rw [HR.out]; first | rfl | (simp; omega), HX1.out⟩
    · have g2 : ¬ (20 : Int) < (pls.length : Int) := by omega
      have HR := Lib.hid (show LG = false from by rw [HLG.out, decide_eq_false h20]; rfl)
      clear h20
      go_wp2
      go_ret
      exact ⟨by rw [HR.out]; first | rfl | (simp; omega), HX1.out⟩
end Go.Proofs.Ytcacicgkebcdkaa
namespace Go.Proofs.Ytcacicgkebcdkaa
open Go.RowKit Go.Ox Go.Ox.Gr
theorem eqInWy9 (a c : Bool) (b d : Int) (w : World) : (Op.equalIn 9999 37 (.agg #[.bool a, .int .i64 b]) (.agg #[.bool c, .int .i64 d])).run Try.prog w = .ok ((a == c) && (b == d)) w := by
  have u3 := Try.underlying3
  have a3 := Try.isAgg3
  have z3 := Try.sizeOf3
  have u4 := Try.underlying4
  have a4 := Try.isAgg4
  have z4 := Try.sizeOf4
  have hS : Try.prog.underlying 37 = some (.struct (Try.prog.fieldsOf 37)) := by kernel_rfl
  have hp : Try.prog.stoodInHeld 37 = false := by kernel_rfl
  rw [show (9999 : Nat) = 9998 + 1 from rfl, run_equalIn_agg w 9998 37 _ _ hS hp]
  simp only [Program.fieldsOf, Try.underlying37]
  go_simp
  cases a <;> cases c <;> by_cases h2 : b = d <;> simp [h2]
theorem eqInWy (a c : Bool) (b d : Int) (w : World) : (Op.equalIn 10000 37 (.agg #[.bool a, .int .i64 b]) (.agg #[.bool c, .int .i64 d])).run Try.prog w = .ok ((a == c) && (b == d)) w := by
  have u3 := Try.underlying3
  have a3 := Try.isAgg3
  have z3 := Try.sizeOf3
  have u4 := Try.underlying4
  have a4 := Try.isAgg4
  have z4 := Try.sizeOf4
  have hS : Try.prog.underlying 37 = some (.struct (Try.prog.fieldsOf 37)) := by kernel_rfl
  have hp : Try.prog.stoodInHeld 37 = false := by kernel_rfl
  rw [show (10000 : Nat) = 9999 + 1 from rfl, run_equalIn_agg w 9999 37 _ _ hS hp]
  simp only [Program.fieldsOf, Try.underlying37]
  go_simp
  cases a <;> cases c <;> by_cases h2 : b = d <;> simp [h2]
theorem wyB (a c : Bool) (b d : Int) : ((a == c) && (b == d)) = decide ((a, b) = (c, d)) := by
  cases a <;> cases c <;> by_cases h : b = d <;> simp [h]
theorem eqWyD (a c : Bool) (b d : Int) (w : World) : (binOp .eql 37 (.agg #[.bool a, .int .i64 b]) (.agg #[.bool c, .int .i64 d])).run Try.prog w = .ok (.bool (decide ((a, b) = (c, d)))) w := by
  rw [run_eql_struct, eqInWy, wyB]; rfl
theorem eqInAr (a b c d f : Int) (e : Bool) (a' b' c' d' f' : Int) (e' : Bool) (w : World) : (Op.equalIn 10000 39 (.agg #[.int .i64 a, .int .i64 b, .int .i64 c, .int .i64 d, .bool e, .int .i64 f]) (.agg #[.int .i64 a', .int .i64 b', .int .i64 c', .int .i64 d', .bool e', .int .i64 f'])).run Try.prog w =
    .ok (decide (((((a, b), c, d), e, f) : Pl.Ar) = (((a', b'), c', d'), e', f'))) w := by
  have hS : Try.prog.underlying 39 = some (.struct (Try.prog.fieldsOf 39)) := by kernel_rfl
  have hp : Try.prog.stoodInHeld 39 = false := by kernel_rfl
  have h1 := eqInPl9
  have h2 := eqInWy9
  have a1 := Try.isAgg26
  have z1 := Try.sizeOf26
  have a2 := Try.isAgg37
  have z2 := Try.sizeOf37
  rw [show (10000 : Nat) = 9999 + 1 from rfl, run_equalIn_agg w 9999 39 _ _ hS hp]
  simp only [Program.fieldsOf, Try.underlying39]
  go_simp
  by_cases q1 : a = a' <;> by_cases q2 : b = b' <;> by_cases q3 : c = c' <;> by_cases q4 : d = d' <;> cases e <;> cases e' <;> by_cases q6 : f = f' <;> simp [q1, q2, q3, q4, q6]
theorem neArD (x y : Pl.Ar) (w : World) : (binOp .neq 39 (arV x) (arV y)).run Try.prog w = .ok (.bool (!decide (x = y))) w := by
  obtain ⟨⟨⟨a, b⟩, c, d⟩, e, f⟩ := x
  obtain ⟨⟨⟨a', b'⟩, c', d'⟩, e', f'⟩ := y
  show (binOp .neq 39 (.agg #[.int .i64 a, .int .i64 b, .int .i64 c, .int .i64 d, .bool e, .int .i64 f]) (.agg #[.int .i64 a', .int .i64 b', .int .i64 c', .int .i64 d', .bool e', .int .i64 f'])).run Try.prog w = _
  rw [run_neq_struct, eqInAr]; rfl
end Go.Proofs.Ytcacicgkebcdkaa
