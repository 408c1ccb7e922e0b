/-
  GrReach, PlRef2, PlEq2, packed: what the claim needs of them.
-/
import Derived.Test.YtcacicgkebcdkaaPe16
import Derived.Test.YtcacicgkebcdkaaPe13
import Derived.Test.YtcacicgkebcdkaaPe37
import Derived.Test.YtcacicgkebcdkaaPe28
import Derived.BigRegion
import Derived.Test.YtcacicgkebcdkaaPe17
import Derived.Test.YtcacicgkebcdkaaPe23
set_option linter.unusedSimpArgs false
set_option linter.unusedVariables false
set_option maxRecDepth 100000
namespace Go.Ox.Gr
open Go.RowKit
def reachB : List Nd := [.mk 10 [] 0 0 0 [], .mk 11 [] 0 0 0 [], .mk 6 [0, 1] 23 0 0 [], .mk 2 [2] 3 0 0 [], .mk 2 [3] 5 1 0 [], .mk 8 [0, 4] 0 0 0 [], .mk 7 [5] 0 0 0 []]
def reachN (n : Int) : List Nd := [.mk 1 [] 0 0 0 [], .mk 1 [] 0 0 1 [], .mk 9 [1] 0 0 n reachB]
def reachL : List Nd := reachN 9
def ndC (op kind fa a : Int) (u b : Value) : List Value := [.int .i64 op, u, .int .i64 kind, .int .i64 fa, .int .i64 a, b]
theorem NdQ.mk {d : Nat} {w : World} {op kind fa a : Int} {u b : Value} {ins : List Int} {body : List Nd} (hu : RE w u ins) (hb : NodesR d w b body) : NdQ (NodesR d) w (ndC op kind fa a u b) (.mk op ins kind fa a body) := ⟨u, b, rfl, hu, hb⟩
def Each2 (Q : List Value → Nd → Prop) : List (List Value) → List Nd → Prop
  | [], [] => True
  | r :: rs, x :: xs => (r.length = 6 ∧ Q r x) ∧ Each2 Q rs xs
  | _, _ => False
theorem Each2.len {Q : List Value → Nd → Prop} : ∀ {rs : List (List Value)} {xs : List Nd}, Each2 Q rs xs → rs.length = xs.length
  | [], [], _ => rfl
  | [], _ :: _, h => h.elim
  | _ :: _, [], h => h.elim
  | _ :: rs, _ :: xs, h => by simp [Each2.len h.2]
theorem Each2.at_ {Q : List Value → Nd → Prop} : ∀ {rs : List (List Value)} {xs : List Nd}, Each2 Q rs xs → ∀ (i : Nat) (r : List Value) (x : Nd), rs[i]? = some r → xs[i]? = some x → r.length = 6 ∧ Q r x
  | [], [], _, _, _, _, h, _ => by simp at h
  | [], _ :: _, h, _, _, _, _, _ => h.elim
  | _ :: _, [], h, _, _, _, _, _ => h.elim
  | r :: rs, x :: xs, h, i, r', x', hr, hx => by
    cases i with
    | zero => simp at hr hx; subst hr; subst hx; exact h.1
    | succ i => simp at hr hx; exact Each2.at_ h.2 i r' x' hr hx
theorem NodesR.lit {w w' : World} {d n : Nat} (cells : Array Value) (E : TypeId) (rows : List (List Value)) (l : List Nd) (hw : w' = w.alloc (.cells cells E)) (hn : rows.length = n) (hm : n ≤ maxLen) (hc : cells.toList = rows.flatten) (hcs : cells.size = n * 6) (h : Each2 (NdQ (NodesR d) w') rows l) :
    NodesR (d + 1) w' (.slice (some ⟨w.heap.size, 0, none⟩) n n) l := by
  refine NodesR.of_rs ⟨rows, ?_, h.len, h.at_⟩
  rw [hn, ← hc, hw]
  exact Rd.of_own (base := w.heap.size) (World.ownsRow_lit w cells n (Nat.le_refl _) hm hcs)
end Go.Ox.Gr
namespace Go.Proofs.Ytcacicgkebcdkaa
open Go.RowKit Go.Ox Go.Ox.Gr
theorem reach_mem {n : Int} {w w0 w1 w2 w3 w4 w5 w6 w7 w8 : World}
    (h0 : w0 = w.alloc (.cells #[.slice (some ⟨w.heap.size + 1 + 1 + 1 + 1 + 1 + 1 + 1 + 1, 0, none⟩) 3 3, .int .i64 2] 24))
    (h1 : w1 = w0.alloc (.cells #[.int .i64 1] 3))
    (h2 : w2 = w1.alloc (.cells #[.int .i64 0, .int .i64 1] 3))
    (h3 : w3 = w2.alloc (.cells #[.int .i64 2] 3))
    (h4 : w4 = w3.alloc (.cells #[.int .i64 3] 3))
    (h5 : w5 = w4.alloc (.cells #[.int .i64 0, .int .i64 4] 3))
    (h6 : w6 = w5.alloc (.cells #[.int .i64 5] 3))
    (h7 : w7 = w6.alloc (.cells #[.int .i64 10, .slice none 0 0, .int .i64 0, .int .i64 0, .int .i64 0, .slice none 0 0, .int .i64 11, .slice none 0 0, .int .i64 0, .int .i64 0, .int .i64 0, .slice none 0 0,
      .int .i64 6, .slice (some ⟨w.heap.size + 1 + 1, 0, none⟩) 2 2, .int .i64 23, .int .i64 0, .int .i64 0, .slice none 0 0, .int .i64 2, .slice (some ⟨w.heap.size + 1 + 1 + 1, 0, none⟩) 1 1, .int .i64 3, .int .i64 0, .int .i64 0, .slice none 0 0,
      .int .i64 2, .slice (some ⟨w.heap.size + 1 + 1 + 1 + 1, 0, none⟩) 1 1, .int .i64 5, .int .i64 1, .int .i64 0, .slice none 0 0, .int .i64 8, .slice (some ⟨w.heap.size + 1 + 1 + 1 + 1 + 1, 0, none⟩) 2 2, .int .i64 0, .int .i64 0, .int .i64 0, .slice none 0 0,
      .int .i64 7, .slice (some ⟨w.heap.size + 1 + 1 + 1 + 1 + 1 + 1, 0, none⟩) 1 1, .int .i64 0, .int .i64 0, .int .i64 0, .slice none 0 0] 45))
    (h8 : w8 = w7.alloc (.cells #[.int .i64 1, .slice none 0 0, .int .i64 0, .int .i64 0, .int .i64 0, .slice none 0 0, .int .i64 1, .slice none 0 0, .int .i64 0, .int .i64 0, .int .i64 1, .slice none 0 0,
      .int .i64 9, .slice (some ⟨w.heap.size + 1, 0, none⟩) 1 1, .int .i64 0, .int .i64 0, .int .i64 n, .slice (some ⟨w.heap.size + 1 + 1 + 1 + 1 + 1 + 1 + 1, 0, none⟩) 7 7] 45)) :
    Blk w8 w.heap.size 24 #[.slice (some ⟨w.heap.size + 1 + 1 + 1 + 1 + 1 + 1 + 1 + 1, 0, none⟩) 3 3, .int .i64 2] ∧ NodesR 2 w8 (.slice (some ⟨w.heap.size + 1 + 1 + 1 + 1 + 1 + 1 + 1 + 1, 0, none⟩) 3 3) (reachN n) ∧ Ext w w8 := by
  have s0 : w0.heap.size = w.heap.size + 1 := by rw [h0]; simp
  have s1 : w1.heap.size = w.heap.size + 1 + 1 := by rw [h1, ← s0]; simp
  have s2 : w2.heap.size = w.heap.size + 1 + 1 + 1 := by rw [h2, ← s1]; simp
  have s3 : w3.heap.size = w.heap.size + 1 + 1 + 1 + 1 := by rw [h3, ← s2]; simp
  have s4 : w4.heap.size = w.heap.size + 1 + 1 + 1 + 1 + 1 := by rw [h4, ← s3]; simp
  have s5 : w5.heap.size = w.heap.size + 1 + 1 + 1 + 1 + 1 + 1 := by rw [h5, ← s4]; simp
  have s6 : w6.heap.size = w.heap.size + 1 + 1 + 1 + 1 + 1 + 1 + 1 := by rw [h6, ← s5]; simp
  have s7 : w7.heap.size = w.heap.size + 1 + 1 + 1 + 1 + 1 + 1 + 1 + 1 := by rw [h7, ← s6]; simp
  have b0 : Blk w0 w.heap.size 24 #[.slice (some ⟨w.heap.size + 1 + 1 + 1 + 1 + 1 + 1 + 1 + 1, 0, none⟩) 3 3, .int .i64 2] := by rw [h0]; exact Blk.new _ _ _
  have r1 : RE w1 (.slice (some ⟨w.heap.size + 1, 0, none⟩) 1 1) ([1] : List Int) := by rw [← s0, h1]; exact RE.lit w0 #[.int .i64 1] 3 1 [1] rfl (by omega) rfl
  have r2 : RE w2 (.slice (some ⟨w.heap.size + 1 + 1, 0, none⟩) 2 2) ([0, 1] : List Int) := by rw [← s1, h2]; exact RE.lit w1 #[.int .i64 0, .int .i64 1] 3 2 [0, 1] rfl (by omega) rfl
  have r3 : RE w3 (.slice (some ⟨w.heap.size + 1 + 1 + 1, 0, none⟩) 1 1) ([2] : List Int) := by rw [← s2, h3]; exact RE.lit w2 #[.int .i64 2] 3 1 [2] rfl (by omega) rfl
  have r4 : RE w4 (.slice (some ⟨w.heap.size + 1 + 1 + 1 + 1, 0, none⟩) 1 1) ([3] : List Int) := by rw [← s3, h4]; exact RE.lit w3 #[.int .i64 3] 3 1 [3] rfl (by omega) rfl
  have r5 : RE w5 (.slice (some ⟨w.heap.size + 1 + 1 + 1 + 1 + 1, 0, none⟩) 2 2) ([0, 4] : List Int) := by rw [← s4, h5]; exact RE.lit w4 #[.int .i64 0, .int .i64 4] 3 2 [0, 4] rfl (by omega) rfl
  have r6 : RE w6 (.slice (some ⟨w.heap.size + 1 + 1 + 1 + 1 + 1 + 1, 0, none⟩) 1 1) ([5] : List Int) := by rw [← s5, h6]; exact RE.lit w5 #[.int .i64 5] 3 1 [5] rfl (by omega) rfl
  have e1 : Ext w0 w1 := by rw [h1]; exact (Ext.refl _).alloc _
  have e2 : Ext w1 w2 := by rw [h2]; exact (Ext.refl _).alloc _
  have e3 : Ext w2 w3 := by rw [h3]; exact (Ext.refl _).alloc _
  have e4 : Ext w3 w4 := by rw [h4]; exact (Ext.refl _).alloc _
  have e5 : Ext w4 w5 := by rw [h5]; exact (Ext.refl _).alloc _
  have e6 : Ext w5 w6 := by rw [h6]; exact (Ext.refl _).alloc _
  have e7 : Ext w6 w7 := by rw [h7]; exact (Ext.refl _).alloc _
  have e8 : Ext w7 w8 := by rw [h8]; exact (Ext.refl _).alloc _
  have e0 : Ext w w0 := by rw [h0]; exact (Ext.refl _).alloc _
  have n7 : NodesR 1 w7 (.slice (some ⟨w.heap.size + 1 + 1 + 1 + 1 + 1 + 1 + 1, 0, none⟩) 7 7) reachB := by
    rw [← s6]
    refine NodesR.lit _ 45 [ndC 10 0 0 0 (.slice none 0 0) (.slice none 0 0), ndC 11 0 0 0 (.slice none 0 0) (.slice none 0 0), ndC 6 23 0 0 (.slice (some ⟨w.heap.size + 1 + 1, 0, none⟩) 2 2) (.slice none 0 0),
      ndC 2 3 0 0 (.slice (some ⟨w.heap.size + 1 + 1 + 1, 0, none⟩) 1 1) (.slice none 0 0), ndC 2 5 1 0 (.slice (some ⟨w.heap.size + 1 + 1 + 1 + 1, 0, none⟩) 1 1) (.slice none 0 0),
      ndC 8 0 0 0 (.slice (some ⟨w.heap.size + 1 + 1 + 1 + 1 + 1, 0, none⟩) 2 2) (.slice none 0 0), ndC 7 0 0 0 (.slice (some ⟨w.heap.size + 1 + 1 + 1 + 1 + 1 + 1, 0, none⟩) 1 1) (.slice none 0 0)] reachB h7 rfl (by unfold maxLen; omega) rfl rfl ?_
    have f2 := (((r2.ext e3).ext e4).ext e5).ext e6 |>.ext e7
    have f3 := ((r3.ext e4).ext e5).ext e6 |>.ext e7
    have f4 := (r4.ext e5).ext e6 |>.ext e7
    have f5 := (r5.ext e6).ext e7
    have f6 := r6.ext e7
    exact ⟨⟨rfl, NdQ.mk (OE.nilS 3 0 _).re (NodesR.nil _ _)⟩, ⟨rfl, NdQ.mk (OE.nilS 3 0 _).re (NodesR.nil _ _)⟩, ⟨rfl, NdQ.mk f2 (NodesR.nil _ _)⟩, ⟨rfl, NdQ.mk f3 (NodesR.nil _ _)⟩, ⟨rfl, NdQ.mk f4 (NodesR.nil _ _)⟩, ⟨rfl, NdQ.mk f5 (NodesR.nil _ _)⟩, ⟨rfl, NdQ.mk f6 (NodesR.nil _ _)⟩, trivial⟩
  refine ⟨(((((((b0.ext e1).ext e2).ext e3).ext e4).ext e5).ext e6).ext e7).ext e8, ?_, ((((((((e0.trans e1).trans e2).trans e3).trans e4).trans e5).trans e6).trans e7).trans e8)⟩
  rw [← s7]
  refine NodesR.lit _ 45 [ndC 1 0 0 0 (.slice none 0 0) (.slice none 0 0), ndC 1 0 0 1 (.slice none 0 0) (.slice none 0 0), ndC 9 0 0 n (.slice (some ⟨w.heap.size + 1, 0, none⟩) 1 1) (.slice (some ⟨w.heap.size + 1 + 1 + 1 + 1 + 1 + 1 + 1, 0, none⟩) 7 7)] (reachN n) h8 rfl (by unfold maxLen; omega) rfl rfl ?_
  have f1 := ((((((r1.ext e2).ext e3).ext e4).ext e5).ext e6).ext e7).ext e8
  exact ⟨⟨rfl, NdQ.mk (OE.nilS 3 0 _).re (NodesR.nil _ _)⟩, ⟨rfl, NdQ.mk (OE.nilS 3 0 _).re (NodesR.nil _ _)⟩, ⟨rfl, NdQ.mk f1 (n7.ext e8)⟩, trivial⟩
attribute [local irreducible] RE OE NodesR
set_option maxHeartbeats 4000000 in
theorem reach_anyN (n : Int) (w : World) : Calls Try.prog 24 #[.int .i64 n] w fun e w' => ∃ u, e = .returned (gAg u 2) ∧ NodesR 2 w' u (reachN n) ∧ Ext w w' := by
  have HM := Lib.hid (reach_mem (n := n) (w := w) rfl rfl rfl rfl rfl rfl rfl rfl rfl)
  go_enter Try.func24, Try.ntmps24
  go_upto_region 1 with fail
  go_wp2
  obtain ⟨hb, hn, hx⟩ := HM.out
  have y0 := hb.cell 0
  have y1 := hb.cell 1
  exact bodyPost_ret (v := gAg _ 2) (by simp [results, Try.results24, go_sem, y0, y1]) rfl ⟨_, rfl, hn, hx⟩
theorem reach_any (w : World) : Calls Try.prog 24 #[.int .i64 9] w fun e w' => ∃ u, e = .returned (gAg u 2) ∧ NodesR 2 w' u reachL ∧ Ext w w' := reach_anyN 9 w
end Go.Proofs.Ytcacicgkebcdkaa
namespace Go.Ox.Pl
open Go.Ox.Gr Go.Proofs.Ytcacicgkebcdkaa
def large (g : G) : Bool := largeB g.1 || decide (20 < (places g.1).length)
theorem large_no {g : G} (h : large g = false) : (gPl g).length ≤ 20 := by
  unfold large at h
  rw [Bool.or_eq_false_iff, decide_eq_false_iff_not] at h
  unfold gPl
  split
  · omega
  · simp
end Go.Ox.Pl
namespace Go.Proofs.Ytcacicgkebcdkaa
open Go.RowKit Go.Ox Go.Ox.Gr Mo
attribute [local irreducible] RE OE NodesR
theorem Blk.fill2 {w : World} {p : Nat} {T : TypeId} {a b : Value} (h : Blk w p T #[a, b]) (u v : Value) : Blk ((w.setCell ⟨p, 0, none⟩ u).setCell ⟨p, 1, none⟩ v) p T #[u, v] := by
  have := (h.set_ 0 u).set_ 1 v
  simpa using this
theorem large20_any (d : Nat) (v : Value) (g : G) (w : World) (hv : NodesR d w v g.1) :
    Calls Try.prog 7 #[gAg v g.2] w fun e w' => e = .returned (.bool (Pl.large g)) ∧ Ext w w' := by
  obtain ⟨l, out⟩ := g
  have HD := Lib.hid (fun W (h : Ext w W) => deep_any 4 0 d v l W (by omega) (by omega) (hv.ext h))
  have HPL := Lib.hid (fun (h : deepB 4 l = false) W (hW : Ext w W) => rPlaces_any d v l out W (hv.ext hW) (by have := (deep_ok h).1; omega) (fun n hn => by have := deep_body h hn; omega))
  have HLG := Lib.hid (show Pl.large (l, out) = (deepB 4 l || decide (20 < (places l).length)) from rfl)
  simp only at hv
  generalize Pl.large (l, out) = LG at *
  generalize places l = pls at *
  obtain ⟨A, c, rfl⟩ := hv.form
  have HX0 := Lib.hid ((Ext.refl w).alloc (gCs (.slice A l.length c) out))
  have HB0 := Lib.hid (Blk.new w 24 #[.slice A l.length c, .int .i64 out])
  clear hv
  go_enter Try.func7, Try.ntmps7
  go_upto_region 1 with fail
  generalize w.heap.size = p at *
  generalize w.alloc (gCs (.slice A l.length c) out) = w0 at *
  have c0 : w0.cell? ⟨p, 0, none⟩ = some (.slice A l.length c) := HB0.out.cell 0
  have c1 : w0.cell? ⟨p, 1, none⟩ = some (.int .i64 out) := HB0.out.cell 1
  obtain ⟨db, hdb⟩ : ∃ db, deepB 4 l = db := ⟨_, rfl⟩
  rw [hdb] at HD HPL HLG
  cases db with
  | true =>
    go_wp2_with fail
    refine (HD.out w0 HX0.out).mono ?_
    rintro e w' ⟨rfl, rfl⟩
    go_wp2
    go_ret
    exact ⟨by rw [HLG.out]; rfl, HX0.out⟩
  | false =>
    go_wp2_with fail
    refine (HD.out w0 HX0.out).mono ?_
    rintro e w' ⟨rfl, rfl⟩
    go_wp2_with fail
    refine (HPL.out (by trivial) w0 HX0.out).mono ?_
    rintro e w1 ⟨u, rfl, hu, he⟩
    obtain ⟨A1, k1, rfl⟩ := hu.re.form
    have HX1 := Lib.hid (HX0.out.trans he)
    clear hu he c0 c1
    by_cases h20 : 20 < pls.length
    · have g2 : (20 : Int) < (pls.length : Int) := by omega
      have HR := Lib.hid (show LG = true from by rw [HLG.out, decide_eq_true h20]; rfl)
      clear h20
      go_wp2
      go_ret
      exact ⟨by rw [HR.out]; first | rfl | (simp; omega), HX1.out⟩
    · have g2 : ¬ (20 : Int) < (pls.length : Int) := by omega
      have HR := Lib.hid (show LG = false from by rw [HLG.out, decide_eq_false h20]; rfl)
      clear h20
      go_wp2
      go_ret
      exact ⟨by rw [HR.out]; first | rfl | (simp; omega), HX1.out⟩
end Go.Proofs.Ytcacicgkebcdkaa
namespace Go.Proofs.Ytcacicgkebcdkaa
open Go.RowKit Go.Ox Go.Ox.Gr
theorem eqInWy (a c : Bool) (b d : Int) (w : World) : (Op.equalIn 10000 37 (.agg #[.bool a, .int .i64 b]) (.agg #[.bool c, .int .i64 d])).run Try.prog w = .ok ((a == c) && (b == d)) w := by
  have u3 := Try.underlying3
  have a3 := Try.isAgg3
  have z3 := Try.sizeOf3
  have u4 := Try.underlying4
  have a4 := Try.isAgg4
  have z4 := Try.sizeOf4
  have hS : Try.prog.underlying 37 = some (.struct (Try.prog.fieldsOf 37)) := by kernel_rfl
  have hp : Try.prog.stoodInHeld 37 = false := by kernel_rfl
  rw [show (10000 : Nat) = 9999 + 1 from rfl, run_equalIn_agg w 9999 37 _ _ hS hp]
  simp only [Program.fieldsOf, Try.underlying37]
  go_simp
  cases a <;> cases c <;> by_cases h2 : b = d <;> simp [h2]
theorem wyB (a c : Bool) (b d : Int) : ((a == c) && (b == d)) = decide ((a, b) = (c, d)) := by
  cases a <;> cases c <;> by_cases h : b = d <;> simp [h]
theorem eqWyD (a c : Bool) (b d : Int) (w : World) : (binOp .eql 37 (.agg #[.bool a, .int .i64 b]) (.agg #[.bool c, .int .i64 d])).run Try.prog w = .ok (.bool (decide ((a, b) = (c, d)))) w := by
  rw [run_eql_struct, eqInWy, wyB]; rfl
end Go.Proofs.Ytcacicgkebcdkaa
