/-
  GrUsers, packed: what the claim needs of them.
-/
import Derived.Test.YtcacicgkebcdkaaPe23
import Derived.Test.YtcacicgkebcdkaaPe24
set_option linter.unusedSimpArgs false
set_option linter.unusedVariables false
set_option maxRecDepth 100000
namespace Go.Proofs.Ytcacicgkebcdkaa
open Go.RowKit Go.Ox Go.Ox.Gr
attribute [local irreducible] RE OE NodesR
set_option maxHeartbeats 400000 in
theorem users1_any (i j k : Int) (p : Nat) (w : World) (hb : Blk w p 26 #[.int .i64 i, .int .i64 j]) :
    Calls Try.prog 53 #[.int .i64 k, .pointer (some ⟨p, 0, none⟩)] w fun e w' => e = .returned (plV (i, k)) ∧ Ext w w' := by
  have c0 : w.cell? ⟨p, 0, none⟩ = some (.int .i64 i) := hb.cell 0
  have hlt := hb.lt
  clear hb
  go_enter Try.func53, Try.ntmps53
  go_wp2
  have hq := Blk.new w 26 #[.int .i64 i, .int .i64 k]
  have y0 := hq.cell 0
  have y1 := hq.cell 1
  exact bodyPost_ret (v := plV (i, k)) (by simp [results, Try.results53, go_sem, y0, y1]) rfl ⟨rfl, (Ext.refl w).alloc _⟩
set_option maxHeartbeats 400000 in
theorem users2_any (k : Int) (w : World) :
    Calls Try.prog 55 #[.int .i64 k] w fun e w' => e = .returned (plV (k, -1)) ∧ Ext w w' := by
  go_enter Try.func55, Try.ntmps55
  go_wp2
  have hq := Blk.new w 26 #[.int .i64 k, .int .i64 (-1)]
  have y0 := hq.cell 0
  have y1 := hq.cell 1
  exact bodyPost_ret (v := plV (k, -1)) (by simp [results, Try.results55, go_sem, y0, y1]) rfl ⟨rfl, (Ext.refl w).alloc _⟩
set_option maxHeartbeats 2000000 in
theorem gUsers_none (d : Nat) (v : Value) (l : List Nd) (out i j : Int) (w : World) (hv : NodesR d w v l)
    (hn : ∀ W, Ext w W → Calls Try.prog 44 #[gAg v out, plV (i, j)] W fun e W' => e = .returned (.tuple #[nd0V, .bool false]) ∧ Ext W W') :
    Calls Try.prog 28 #[gAg v out, plV (i, j)] w fun e w' => e = .returned (.slice none 0 0) ∧ Ext w w' := by
  obtain ⟨A, c, rfl⟩ := hv.form
  have hx0 := ((Ext.refl w).alloc (gCs (.slice A l.length c) out)).alloc (plCs i j)
  have HX0 := Lib.hid hx0
  have HG0 := Lib.hid ((Blk.new w 24 #[.slice A l.length c, .int .i64 out]).ext ((Ext.refl _).alloc (plCs i j)))
  have HP0 := Lib.hid (Blk.new (w.alloc (gCs (.slice A l.length c) out)) 26 #[.int .i64 i, .int .i64 j])
  have HN := Lib.hid (hn _ hx0)
  clear hv hn hx0
  go_enter Try.func28, Try.ntmps28
  go_upto_region 1 with fail
  obtain ⟨p, hp⟩ : ∃ p, p = w.heap.size := ⟨_, rfl⟩
  have hq : (w.alloc (gCs (.slice A l.length c) out)).heap.size = p + 1 := by rw [hp]; simp
  rw [hq] at HP0
  rw [← hp] at HG0 ⊢
  clear hp hq
  generalize (w.alloc (gCs (.slice A l.length c) out)).alloc (plCs i j) = w0 at *
  have a0 : w0.cell? ⟨p, 0, none⟩ = some (.slice A l.length c) := HG0.out.cell 0
  have a1 : w0.cell? ⟨p, 1, none⟩ = some (.int .i64 out) := HG0.out.cell 1
  have a2 : w0.cell? ⟨p + 1, 0, none⟩ = some (.int .i64 i) := HP0.out.cell 0
  have a3 : w0.cell? ⟨p + 1, 1, none⟩ = some (.int .i64 j) := HP0.out.cell 1
  go_wp2_with fail
  refine HN.out.mono ?_
  rintro e w1 ⟨rfl, he1⟩
  have HX1 := Lib.hid ((HX0.out.trans he1).alloc (ndCs 0 0 0 0 (.slice none 0 0) (.slice none 0 0)))
  clear he1 a0 a1 a2 a3
  go_wp2
  go_ret
  exact ⟨rfl, HX1.out⟩
end Go.Proofs.Ytcacicgkebcdkaa
namespace Go.Proofs.Ytcacicgkebcdkaa
open Go.RowKit Go.Ox Go.Ox.Gr
attribute [local irreducible] RE OE NodesR
set_option maxHeartbeats 4000000 in
theorem gUsers_in (d : Nat) (v : Value) (l : List Nd) (out : Int) (i j : Nat) (op kind fa a : Int) (ins : List Int) (body : List Nd) (mop mkind mfa ma : Int) (mins : List Int) (mbody : List Nd) (w : World) (hv : NodesR d w v l) (hok : gOk (l, out) = true)
    (hni : l[i]? = some (.mk op ins kind fa a body)) (hmi : body[j]? = some (.mk mop mins mkind mfa ma mbody)) :
    Calls Try.prog 28 #[gAg v out, plV ((i : Int), (j : Int))] w fun e w' => ∃ u, e = .returned u ∧ OE 61 w.heap.size w' u (namedL (j : Int) (fun k => ((i : Int), (k : Int))) body) ∧ Ext w w' := by
  obtain ⟨A, c, rfl⟩ := hv.form
  have hx0 := ((Ext.refl w).alloc (gCs (.slice A l.length c) out)).alloc (plCs (i : Int) (j : Int))
  have HX0 := Lib.hid hx0
  have HG0 := Lib.hid ((Blk.new w 24 #[.slice A l.length c, .int .i64 out]).ext ((Ext.refl _).alloc (plCs (i : Int) (j : Int))))
  have HP0 := Lib.hid (Blk.new (w.alloc (gCs (.slice A l.length c) out)) 26 #[.int .i64 (i : Int), .int .i64 (j : Int)])
  have HN := Lib.hid (gNode_in d (.slice A l.length c) l out i j op kind fa a ins body _ (hv.ext hx0) hok hni mop mkind mfa ma mins mbody hmi)
  have HV0 := Lib.hid hv
  obtain ⟨hil, hix⟩ := List.getElem?_eq_some_iff.1 hni
  have hnd := gOk_nd hok (List.getElem_mem hil)
  rw [hix] at hnd
  have HND := Lib.hid (show ins.length ≤ 2 ∧ body.length ≤ 32 ∧ ∀ m ∈ body, m.body = [] ∧ m.ins.length ≤ 2 from hnd)
  obtain ⟨bA, oA, u, bv, hA, e0, e1, e2, e3, e4, e5, hu, hbv⟩ := hv.at_ hil
  rw [hix] at hbv
  have HB0 := Lib.hid (show NodesR (d - 1) w bv body from hbv)
  obtain ⟨Ab, cb, hbf⟩ : ∃ A c, bv = .slice A body.length c := HB0.out.form
  subst hbf
  subst hA
  have eg : ∀ args w, (callFunc 53 args).run Try.prog w = .ok (.enter 53 args) w := enters_of Try.func53 (by kernel_rfl) rfl
  have HE5 := Lib.hid e5
  have HIL := Lib.hid hil
  have HNM := Lib.hid (fun (q : Nat) (W : World) (hb : Blk W q 26 #[.int .i64 (i : Int), .int .i64 (j : Int)]) (h : NodesR (d - 1) W (.slice Ab body.length cb) body) =>
    named_any (j : Int) (fun k => ((i : Int), (k : Int))) 53 #[.pointer (some ⟨q, 0, none⟩)] eg (d - 1) (.slice Ab body.length cb) body W h (by have := HND.out.2.1; omega) (fun n hn => by have := (HND.out.2.2 n hn).2; omega) (fun k W' he => users1_any (i : Int) (j : Int) (k : Int) q W' (hb.ext he)))
  generalize namedL (j : Int) (fun k => ((i : Int), (k : Int))) body = nl at *
  clear hv hni hmi hx0 hix hnd e0 e1 e2 e3 e4 e5 hu hbv eg hok
  go_enter Try.func28, Try.ntmps28
  go_upto_region 1 with fail
  obtain ⟨p, hp⟩ : ∃ p, p = w.heap.size := ⟨_, rfl⟩
  have hq : (w.alloc (gCs (.slice (some ⟨bA, oA, none⟩) l.length c) out)).heap.size = p + 1 := by rw [hp]; simp
  rw [hq] at HP0
  rw [← hp] at HG0 ⊢
  clear hp hq
  generalize (w.alloc (gCs (.slice (some ⟨bA, oA, none⟩) l.length c) out)).alloc (plCs (i : Int) (j : Int)) = w0 at *
  have a0 : w0.cell? ⟨p, 0, none⟩ = some (.slice (some ⟨bA, oA, none⟩) l.length c) := HG0.out.cell 0
  have a1 : w0.cell? ⟨p, 1, none⟩ = some (.int .i64 out) := HG0.out.cell 1
  have a2 : w0.cell? ⟨p + 1, 0, none⟩ = some (.int .i64 (i : Int)) := HP0.out.cell 0
  have a3 : w0.cell? ⟨p + 1, 1, none⟩ = some (.int .i64 (j : Int)) := HP0.out.cell 1
  go_wp2_with fail
  refine HN.out.mono ?_
  rintro e w1 ⟨u', rfl, hu', he1⟩
  obtain ⟨A9, c9, rfl⟩ := hu'.form
  have hx2 := he1.alloc (ndCs mop mkind mfa ma (.slice A9 mins.length c9) (.slice none 0 0))
  have HX2 := Lib.hid (HX0.out.trans hx2)
  have HG2 := Lib.hid (HG0.out.ext hx2)
  have HP2 := Lib.hid (HP0.out.ext hx2)
  clear he1 hu' hx2 a0 a1 a2 a3
  go_upto_region 5 with fail
  generalize w1.alloc (ndCs mop mkind mfa ma (.slice A9 mins.length c9) (.slice none 0 0)) = w2 at *
  have a0 : w2.cell? ⟨p, 0, none⟩ = some (.slice (some ⟨bA, oA, none⟩) l.length c) := HG2.out.cell 0
  have a2 : w2.cell? ⟨p + 1, 0, none⟩ = some (.int .i64 (i : Int)) := HP2.out.cell 0
  have a3 : w2.cell? ⟨p + 1, 1, none⟩ = some (.int .i64 (j : Int)) := HP2.out.cell 1
  have e5 := HX2.out.cell HE5.out
  have hjm : ((j : Int) != -1) = true := by simp
  have q1 : (i : Int) < (l.length : Int) := by have := HIL.out; omega
  have q1n : i < l.length := HIL.out
  have q0 : 0 ≤ (i : Int) := by omega
  go_wp2
  refine wp_regionY [] [] Ext Ext (fun _ => True) (by kernel_rfl) (by rfl) (by rfl) (by kernel_rfl) (by kernel_rfl) (by kernel_rfl) (fun _ _ _ x y => x.trans y) Ext.refl (fun _ _ x => x) (Ext.refl _).drew (fun _ _ x _ => x) trivial ?_
  repeat (first | (refine wpY_move0 rfl rfl (by first | exact runs0 | exact runs1 rfl) Ext.refl rfl rfl rfl ?_; apply Exists.intro; refine ⟨?_, ?_⟩; · (go_simp; rfl)) | (refine wpY_move rfl rfl (by first | exact runs0 | exact runs1 rfl) Ext.refl rfl rfl rfl (fun _ _ _ h _ => h) ?_) | (refine wpY_val rfl rfl (by first | exact runs0 | exact runs1 rfl) Ext.refl rfl ?_; apply Exists.intro; refine ⟨?_, ?_⟩; · (intro a w' hR; (try (intro h1; try have e1 : _ = _ := h1)); (try (intro h2; try have e2 : _ = _ := h2)); (try (intro h3; try have e3 : _ = _ := h3)); go_simp; rfl)) | (refine wpY_skip rfl rfl (by first | exact .inl rfl | exact .inr rfl) ?_))
  refine wpY_val rfl rfl (by first | exact runs0 | exact runs1 rfl) Ext.refl rfl ?_; apply Exists.intro; refine ⟨?_, ?_⟩
  · intro a w' hR h1
    have e1 : _ = _ := h1
    have hl0 := hR.cell a0
    go_simp
    rfl
  repeat (first | (refine wpY_move0 rfl rfl (by first | exact runs0 | exact runs1 rfl) Ext.refl rfl rfl rfl ?_; apply Exists.intro; refine ⟨?_, ?_⟩; · (go_simp; rfl)) | (refine wpY_move rfl rfl (by first | exact runs0 | exact runs1 rfl) Ext.refl rfl rfl rfl (fun _ _ _ h _ => h) ?_) | (refine wpY_val rfl rfl (by first | exact runs0 | exact runs1 rfl) Ext.refl rfl ?_; apply Exists.intro; refine ⟨?_, ?_⟩; · (intro a w' hR; (try (intro h1; try have e1 : _ = _ := h1)); (try (intro h2; try have e2 : _ = _ := h2)); (try (intro h3; try have e3 : _ = _ := h3)); go_simp; rfl)) | (refine wpY_skip rfl rfl (by first | exact .inl rfl | exact .inr rfl) ?_))
  refine wpY_val rfl rfl (by first | exact runs0 | exact runs1 rfl) Ext.refl rfl ?_; apply Exists.intro; refine ⟨?_, ?_⟩
  · intro a w' hR h1
    have e1 : _ = _ := h1
    have hl0 := hR.cell a2
    go_simp
    rfl
  repeat (first | (refine wpY_move0 rfl rfl (by first | exact runs0 | exact runs1 rfl) Ext.refl rfl rfl rfl ?_; apply Exists.intro; refine ⟨?_, ?_⟩; · (go_simp; rfl)) | (refine wpY_move rfl rfl (by first | exact runs0 | exact runs1 rfl) Ext.refl rfl rfl rfl (fun _ _ _ h _ => h) ?_) | (refine wpY_val rfl rfl (by first | exact runs0 | exact runs1 rfl) Ext.refl rfl ?_; apply Exists.intro; refine ⟨?_, ?_⟩; · (intro a w' hR; (try (intro h1; try have e1 : _ = _ := h1)); (try (intro h2; try have e2 : _ = _ := h2)); (try (intro h3; try have e3 : _ = _ := h3)); go_simp; rfl)) | (refine wpY_skip rfl rfl (by first | exact .inl rfl | exact .inr rfl) ?_))
  refine wpY_val rfl rfl (by first | exact runs0 | exact runs1 rfl) Ext.refl rfl ?_; apply Exists.intro; refine ⟨?_, ?_⟩
  · intro a w' hR h1
    have e1 : _ = _ := h1
    have hl0 := hR.cell e5
    go_simp
    rfl
  repeat (first | (refine wpY_move0 rfl rfl (by first | exact runs0 | exact runs1 rfl) Ext.refl rfl rfl rfl ?_; apply Exists.intro; refine ⟨?_, ?_⟩; · (go_simp; rfl)) | (refine wpY_move rfl rfl (by first | exact runs0 | exact runs1 rfl) Ext.refl rfl rfl rfl (fun _ _ _ h _ => h) ?_) | (refine wpY_val rfl rfl (by first | exact runs0 | exact runs1 rfl) Ext.refl rfl ?_; apply Exists.intro; refine ⟨?_, ?_⟩; · (intro a w' hR; (try (intro h1; try have e1 : _ = _ := h1)); (try (intro h2; try have e2 : _ = _ := h2)); (try (intro h3; try have e3 : _ = _ := h3)); go_simp; rfl)) | (refine wpY_skip rfl rfl (by first | exact .inl rfl | exact .inr rfl) ?_))
  refine wpY_val rfl rfl (by first | exact runs0 | exact runs1 rfl) Ext.refl rfl ?_; apply Exists.intro; refine ⟨?_, ?_⟩
  · intro a w' hR h1
    have e1 : _ = _ := h1
    have hl0 := hR.cell a3
    go_simp
    rfl
  repeat (first | (refine wpY_move0 rfl rfl (by first | exact runs0 | exact runs1 rfl) Ext.refl rfl rfl rfl ?_; apply Exists.intro; refine ⟨?_, ?_⟩; · (go_simp; rfl)) | (refine wpY_move rfl rfl (by first | exact runs0 | exact runs1 rfl) Ext.refl rfl rfl rfl (fun _ _ _ h _ => h) ?_) | (refine wpY_val rfl rfl (by first | exact runs0 | exact runs1 rfl) Ext.refl rfl ?_; apply Exists.intro; refine ⟨?_, ?_⟩; · (intro a w' hR; (try (intro h1; try have e1 : _ = _ := h1)); (try (intro h2; try have e2 : _ = _ := h2)); (try (intro h3; try have e3 : _ = _ := h3)); go_simp; rfl)) | (refine wpY_skip rfl rfl (by first | exact .inl rfl | exact .inr rfl) ?_))
  refine wpY_call (fun v w => OE 61 w2.heap.size w v nl) rfl rfl (by first | exact runs0 | exact runs1 rfl) rfl (by first | exact mono_eq | exact (fun _ _ _ h k => Rd.ext h k) | exact (fun _ _ _ h k => RB.ext h k) | exact (fun _ _ _ h k => OB.ext h k) | exact (fun _ _ _ h k => RB.extS h k) | exact (fun _ _ _ h k => Rd.ext h (GrownW.ext k)) | exact (fun _ _ _ h k => RP.ext h k) | exact (fun _ _ _ h k => OP.ext h k) | exact (fun _ _ _ h k => Rd.extV h k) | exact (fun _ _ _ h k => RB.extV h k) | exact (fun _ _ _ h k => E0.ext h k) | exact (fun _ _ _ h k => O0.ext h k) | exact (fun _ _ _ h k => RE.ext h k) | exact (fun _ _ _ h k => RE.extD h k) | exact (fun _ _ _ h _ => h) | exact (fun _ _ _ ⟨n, h1, h2⟩ k => ⟨n, h1, k.st _ _ h2⟩) | exact (fun _ _ _ h k => OE.ext h k)) ?_ ?_
  · intro a w' hR h1 h2 h3 K hK
    have e1 : _ = _ := h1
    have e2 : _ = _ := h2
    have e3 : _ = _ := h3
    go_simp
    refine (HNM.out (p + 1) w' (HP2.out.ext hR) (HB0.out.ext (HX2.out.trans hR))).mono ?_
    rintro e w2 ⟨un, rfl, ho, he⟩
    exact hK _ _ he (ho.low (Ext.size hR))
  (refine wpY_assign rfl rfl rfl rfl rfl (by first | exact runs0 | exact runs1 rfl) Ext.refl (by first | exact mono_eq | exact (fun _ _ _ h k => Rd.ext h k) | exact (fun _ _ _ h k => RB.ext h k) | exact (fun _ _ _ h k => OB.ext h k) | exact (fun _ _ _ h k => RB.extS h k) | exact (fun _ _ _ h k => Rd.ext h (GrownW.ext k)) | exact (fun _ _ _ h k => RP.ext h k) | exact (fun _ _ _ h k => OP.ext h k) | exact (fun _ _ _ h k => Rd.extV h k) | exact (fun _ _ _ h k => RB.extV h k) | exact (fun _ _ _ h k => E0.ext h k) | exact (fun _ _ _ h k => O0.ext h k) | exact (fun _ _ _ h k => RE.ext h k) | exact (fun _ _ _ h k => RE.extD h k) | exact (fun _ _ _ h _ => h) | exact (fun _ _ _ ⟨n, h1, h2⟩ k => ⟨n, h1, k.st _ _ h2⟩) | exact (fun _ _ _ h k => OE.ext h k)) ?_)
  refine wpY_done ?_
  intro w5 hx5 hS
  iterate 10 (rintro _ rfl)
  rintro v35 h35
  rintro v4 h4
  dsimp only [FinV]
  go_simp
  have hx5 : Ext w2 w5 := hx5
  have HX5 := Lib.hid (HX2.out.trans hx5)
  have H4 := Lib.hid (show OE 61 w.heap.size w5 v4 nl from OE.low h4 HX2.out.size)
  clear hx5 hS h35 h4
  go_wp2
  go_ret
  exact ⟨_, rfl, H4.out, HX5.out⟩
end Go.Proofs.Ytcacicgkebcdkaa
namespace Go.Ox.Gr
def ouN (name lp : Int) (body : List Nd) : List ((Int × Int) × Int) := body.zipIdx.filterMap fun x => if x.1.op = 11 ∧ x.1.a = name then some ((lp, (x.2 : Int)), 0) else none
theorem ouN_s (name lp : Int) (body : List Nd) {k : Nat} (h : k < body.length) : ouN name lp (body.take (k + 1)) = ouN name lp (body.take k) ++ (if body[k].op = 11 ∧ body[k].a = name then [((lp, (k : Int)), 0)] else []) := by
  unfold ouN
  rw [List.take_succ_eq_append_getElem h, List.zipIdx_append, List.filterMap_append]
  congr 1
  have : (body.take k).length = k := by rw [List.length_take]; omega
  rw [this]
  by_cases q : body[k].op = 11 ∧ body[k].a = name
  · simp [q]
  · rw [if_neg q]
    simp only [List.zipIdx_cons, List.zipIdx_nil, List.filterMap_cons, List.filterMap_nil]
    rw [if_neg q]
theorem ouN_len (name lp : Int) (body : List Nd) : (ouN name lp body).length ≤ body.length := by
  unfold ouN
  refine Nat.le_trans (List.length_filterMap_le _ _) (by simp)
def usTop (l : List Nd) (i : Int) : List ((Int × Int) × Int) :=
  namedL i (fun k => ((k : Int), -1)) l ++ (if 0 ≤ loopAt l then ouN i (loopAt l) (l[(loopAt l).toNat]?.getD default).body else [])
end Go.Ox.Gr
namespace Go.Proofs.Ytcacicgkebcdkaa
open Go.RowKit Go.Ox Go.Ox.Gr
attribute [local irreducible] RE OE NodesR
set_option maxHeartbeats 8000000 in
theorem gUsers_top (d : Nat) (v : Value) (l : List Nd) (out : Int) (i : Nat) (op kind fa a : Int) (ins : List Int) (body : List Nd) (w : World) (hv : NodesR d w v l) (hok : gOk (l, out) = true)
    (hni : l[i]? = some (.mk op ins kind fa a body)) :
    Calls Try.prog 28 #[gAg v out, plV ((i : Int), -1)] w fun e w' => ∃ u, e = .returned u ∧ OE 61 w.heap.size w' u (usTop l i) ∧ Ext w w' := by
  have h32 := gOk_len hok
  have h32 : l.length ≤ 32 := h32
  have HND := Lib.hid (fun n (hn : n ∈ l) => gOk_nd hok hn)
  have HLP := Lib.hid (show loopI (l, out) = max (loopAt l) 0 ∧ loopB (l, out) = decide (0 ≤ loopAt l) by
    unfold loopI loopB
    rw [if_pos hok, hok]; exact ⟨rfl, rfl⟩)
  have HLR := Lib.hid (loopAt_range l)
  obtain ⟨A, c, rfl⟩ := hv.form
  have hx0 := ((Ext.refl w).alloc (gCs (.slice A l.length c) out)).alloc (plCs (i : Int) (-1))
  have HX0 := Lib.hid hx0
  have HG0 := Lib.hid ((Blk.new w 24 #[.slice A l.length c, .int .i64 out]).ext ((Ext.refl _).alloc (plCs (i : Int) (-1))))
  have HP0 := Lib.hid (Blk.new (w.alloc (gCs (.slice A l.length c) out)) 26 #[.int .i64 (i : Int), .int .i64 (-1)])
  have HN := Lib.hid (gNode_top d (.slice A l.length c) l out i op kind fa a ins body _ (hv.ext hx0) hok hni)
  have HV0 := Lib.hid hv
  have eg : ∀ args w, (callFunc 55 args).run Try.prog w = .ok (.enter 55 args) w := enters_of Try.func55 (by kernel_rfl) rfl
  have HNM := Lib.hid (fun (W : World) (h : NodesR d W (.slice A l.length c) l) => named_any (i : Int) (fun k => ((k : Int), -1)) 55 #[] eg d (.slice A l.length c) l W h (by omega) (fun n hn => by have := (HND.out n hn).1; omega) (fun k W' he => users2_any (k : Int) W'))
  have HLO := Lib.hid (fun (W : World) (h : NodesR d W (.slice A l.length c) l) => gLoop_any d (.slice A l.length c) l out W h)
  have HNL := Lib.hid (show (namedL (i : Int) (fun k => ((k : Int), -1)) l).length ≤ 10000 by have := namedL_len (i : Int) (fun k => ((k : Int), -1)) l l.length (fun n hn => by have := (HND.out n hn).1; omega) (by omega); rwa [List.take_length] at this)
  have HUS := Lib.hid (show usTop l i = namedL (i : Int) (fun k => ((k : Int), -1)) l ++ (if 0 ≤ loopAt l then ouN i (loopAt l) (l[(loopAt l).toNat]?.getD default).body else []) from rfl)
  generalize usTop l i = us at *
  generalize namedL (i : Int) (fun k => ((k : Int), -1)) l = nl at *
  clear hv hni hx0 eg hok h32
  go_enter Try.func28, Try.ntmps28
  go_upto_region 1 with fail
  obtain ⟨p, hp⟩ : ∃ p, p = w.heap.size := ⟨_, rfl⟩
  have hq : (w.alloc (gCs (.slice A l.length c) out)).heap.size = p + 1 := by rw [hp]; simp
  rw [hq] at HP0
  rw [← hp] at HG0 ⊢
  clear hp hq
  generalize (w.alloc (gCs (.slice A l.length c) out)).alloc (plCs (i : Int) (-1)) = w0 at *
  have a0 : w0.cell? ⟨p, 0, none⟩ = some (.slice A l.length c) := HG0.out.cell 0
  have a1 : w0.cell? ⟨p, 1, none⟩ = some (.int .i64 out) := HG0.out.cell 1
  have a2 : w0.cell? ⟨p + 1, 0, none⟩ = some (.int .i64 (i : Int)) := HP0.out.cell 0
  have a3 : w0.cell? ⟨p + 1, 1, none⟩ = some (.int .i64 (-1)) := HP0.out.cell 1
  go_wp2_with fail
  refine HN.out.mono ?_
  rintro e w1 ⟨u', b', rfl, hu', hb', he1⟩
  obtain ⟨A9, c9, rfl⟩ := hu'.form
  obtain ⟨A8, c8, rfl⟩ := hb'.form
  have hx2 := he1.alloc (ndCs op kind fa a (.slice A9 ins.length c9) (.slice A8 body.length c8))
  have HX2 := Lib.hid (HX0.out.trans hx2)
  have HG2 := Lib.hid (HG0.out.ext hx2)
  have HP2 := Lib.hid (HP0.out.ext hx2)
  clear he1 hu' hb' hx2 a0 a1 a2 a3
  go_upto_region 5 with fail
  generalize w1.alloc (ndCs op kind fa a (.slice A9 ins.length c9) (.slice A8 body.length c8)) = w2 at *
  have a0 : w2.cell? ⟨p, 0, none⟩ = some (.slice A l.length c) := HG2.out.cell 0
  have a2 : w2.cell? ⟨p + 1, 0, none⟩ = some (.int .i64 (i : Int)) := HP2.out.cell 0
  have a3 : w2.cell? ⟨p + 1, 1, none⟩ = some (.int .i64 (-1)) := HP2.out.cell 1
  go_wp2_with fail
  refine (HNM.out w2 (HV0.out.ext HX2.out)).mono ?_
  rintro e w3 ⟨un, rfl, ho3, he3⟩
  have HX3 := Lib.hid (HX2.out.trans he3)
  have HG3 := Lib.hid (HG2.out.ext he3)
  have HP3 := Lib.hid (HP2.out.ext he3)
  have HO3 := Lib.hid ho3
  obtain ⟨AO, cO, rfl⟩ := ho3.re.form
  have HX23 := Lib.hid he3
  clear ho3 he3 a0 a2 a3
  have a0 : w3.cell? ⟨p, 0, none⟩ = some (.slice A l.length c) := HG3.out.cell 0
  have a1 : w3.cell? ⟨p, 1, none⟩ = some (.int .i64 out) := HG3.out.cell 1
  go_wp2_with fail
  refine (HLO.out w3 (HV0.out.ext HX3.out)).mono ?_
  rintro e w4 ⟨rfl, he4⟩
  have HX4 := Lib.hid (HX3.out.trans he4)
  have HG4 := Lib.hid (HG3.out.ext he4)
  have HP4 := Lib.hid (HP3.out.ext he4)
  have HO4 := Lib.hid (HO3.out.ext he4)
  have HX24 := Lib.hid (HX23.out.trans he4)
  clear he4 a0 a1
  obtain ⟨hli, hlb⟩ := HLP.out
  by_cases hq : 0 ≤ loopAt l
  · obtain ⟨n, hn⟩ : ∃ n : Nat, loopAt l = (n : Int) := ⟨(loopAt l).toNat, by omega⟩
    have hnl : n < l.length := by rcases HLR.out with q | q <;> omega
    have hli2 : loopI (l, out) = (n : Int) := by rw [hli, hn]; omega
    have hlb2 : loopB (l, out) = true := by rw [hlb]; simpa using hq
    have HUB := Lib.hid (show us = nl ++ ouN i (n : Int) l[n].body by
      have := HUS.out
      rw [if_pos hq, hn, Int.toNat_natCast, List.getElem?_eq_getElem hnl] at this
      exact this)
    have HBL := Lib.hid (show l[n].body.length ≤ 32 from (HND.out _ (List.getElem_mem hnl)).2.1)
    rw [hli2, hlb2]
    obtain ⟨bA, oA, u, bv, rfl, e0, e1, e2, e3, e4, e5, hu, hbv⟩ := (HV0.out.ext HX2.out).at_ hnl
    have e5 := HX24.out.cell e5
    generalize l[n] = x at *
    obtain ⟨xop, xins, xkind, xfa, xa, xbody⟩ := x
    simp only [Nd.op, Nd.kind, Nd.fa, Nd.a, Nd.ins, Nd.body] at e0 e1 e2 e3 e4 e5 hu hbv
    replace HUB := Lib.hid (show us = nl ++ ouN i (n : Int) xbody from HUB.out)
    replace HBL := Lib.hid (show xbody.length ≤ 32 from HBL.out)
    have HBV := Lib.hid hbv
    obtain ⟨Ab, cb, rfl⟩ := hbv.form
    have q1 : (n : Int) < (l.length : Int) := by omega
    have q0 : 0 ≤ (n : Int) := by omega
    have q1n : n < l.length := hnl
    have a0 : w4.cell? ⟨p, 0, none⟩ = some (.slice (some ⟨bA, oA, none⟩) l.length c) := HG4.out.cell 0
    clear hu hbv e0 e1 e2 e3 e4 hli hlb hq hn hnl hli2 hlb2 HUS HLP HLR
    go_wp2
    clear a0 e5
    go_loopw [8, 54] (fun o iv wx => ∃ j : Nat, j ≤ xbody.length ∧ iv = .int .i64 (j : Int) ∧ OE 61 w2.heap.size wx o (nl ++ ouN i (n : Int) (xbody.take j)) ∧ Ext w2 wx) (fun _ iv _ => xbody.length - (intOf iv).toNat)
    case atStart => exact ⟨0, Nat.zero_le _, rfl, by rw [show ouN i (n : Int) (xbody.take 0) = [] from rfl, List.append_nil]; exact HO4.out, HX24.out⟩
    case round =>
      obtain ⟨j, hj, rfl, ho, hext⟩ := hrel
      rename World => wx
      have HE := Lib.hid hext
      have HO := Lib.hid ho
      obtain ⟨AP, cP, hvo⟩ := ho.re.form
      have hj100 : j ≤ 100 := by have := HBL.out; omega
      by_cases hlt : j < xbody.length
      · have r1 : (j : Int) < (xbody.length : Int) := by omega
        have r0 : 0 ≤ (j : Int) := by omega
        have r1n : j < xbody.length := hlt
        have HJT := Lib.hid hlt
        obtain ⟨bB, oB, ub, bb, rfl, e0, e1, e2, e3, e4, e5, hu, hbv⟩ := (HBV.out.ext hext).at_ hlt
        have HSJ := Lib.hid (ouN_s i (n : Int) xbody hlt)
        have HPJ := Lib.hid (show (nl ++ ouN i (n : Int) (xbody.take j)).length ≤ 20100 by have h1 := HNL.out; have h2 := ouN_len i (n : Int) (xbody.take j); rw [List.length_append]; rw [List.length_take] at h2; have := HBL.out; omega)
        generalize xbody[j] = y at *
        obtain ⟨yop, yins, ykind, yfa, ya, ybody⟩ := y
        simp only [Nd.op, Nd.kind, Nd.fa, Nd.a, Nd.ins, Nd.body] at e0 e1 e2 e3 e4 e5 hu hbv
        replace HSJ := Lib.hid (show ouN i (n : Int) (xbody.take (j + 1)) = ouN i (n : Int) (xbody.take j) ++ (if yop = 11 ∧ ya = (i : Int) then [(((n : Int), (j : Int)), (0 : Int))] else []) from HSJ.out)
        obtain ⟨Au, cu, rfl⟩ := hu.form
        obtain ⟨Ab, cb2, rfl⟩ := hbv.form
        have hxn := (Ext.refl wx).alloc (ndCs yop ykind yfa ya (.slice Au yins.length cu) (.slice Ab ybody.length cb2))
        obtain ⟨y0, y1, y2, y3, y4, y5⟩ := (Bx6.new wx 45 (.int .i64 yop) (.slice Au yins.length cu) (.int .i64 ykind) (.int .i64 yfa) (.int .i64 ya) (.slice Ab ybody.length cb2)).at_
        have HXN := Lib.hid (HE.out.trans hxn)
        have HON := Lib.hid (ho.ext hxn)
        have z2 : (wx.alloc (ndCs yop ykind yfa ya (.slice Au yins.length cu) (.slice Ab ybody.length cb2))).cell? ⟨p + 1, 0, none⟩ = some (.int .i64 (i : Int)) := (HP2.out.ext HXN.out).cell 0
        clear ho hext hlt hj hu hbv hxn y1 y2 y3 y5
        go_upto_region 13 with fail
        clear e0 e1 e2 e3 e4 e5
        generalize wx.heap.size = q at *
        generalize wx.alloc (ndCs yop ykind yfa ya (.slice Au yins.length cu) (.slice Ab ybody.length cb2)) = wn at *
        by_cases hc : yop = 11 ∧ ya = (i : Int)
        · rw [if_pos hc] at HSJ
          obtain ⟨rfl, rfl⟩ := hc
          have HAS := Lib.hid (show nl ++ ouN i (n : Int) (xbody.take (j + 1)) = (nl ++ ouN i (n : Int) (xbody.take j)) ++ [(((n : Int), (j : Int)), (0 : Int))] by rw [HSJ.out, List.append_assoc])
          generalize nl ++ ouN i (n : Int) (xbody.take j) = pj at *
          subst hvo
          have HL1 := Lib.hid (RE.lit wn #[.int .i64 (n : Int), .int .i64 (j : Int), .int .i64 0] 61 1 [((((n : Int), (j : Int)), (0 : Int)) : Po)] rfl (by omega) rfl)
          have HXA := Lib.hid ((Ext.refl wn).alloc (.cells #[.int .i64 (n : Int), .int .i64 (j : Int), .int .i64 0] 61))
          have HOL := Lib.hid (HON.out.ext HXA.out)
          have HXB := Lib.hid (HXN.out.trans HXA.out)
          go_wp2_with (at_builtin; refine wpList_appE rfl elemPo _ _ _ rfl w2.heap.size _ _ pj [((((n : Int), (j : Int)), (0 : Int)) : Po)] rfl HOL.out rfl HL1.out (by have := HPJ.out; simp; omega) (by have := HPJ.out; unfold maxLen; simp; omega) HXB.out.size ?_; intro v9 w9 ho9 hg9 hat9)
          have HX9 := Lib.hid (HXB.out.grown hat9 fun g hg => (HOL.out.own.lt g hg).1)
          have HO9 := Lib.hid ho9
          clear ho9 hg9 hat9
          go_wp2
          exact ⟨⟨j + 1, HJT.out, by go_num, by rw [HAS.out]; exact HO9.out, HX9.out⟩, by have := HJT.out; simp [intOf]; omega⟩
        · rw [if_neg hc, List.append_nil] at HSJ
          have HAS := Lib.hid (show nl ++ ouN i (n : Int) (xbody.take (j + 1)) = nl ++ ouN i (n : Int) (xbody.take j) by rw [HSJ.out])
          by_cases h11 : yop = 11
          · subst h11
            have hab : (ya == (i : Int)) = false := by simpa using fun e => hc ⟨rfl, e⟩
            clear hc
            go_wp2_with fail
            exact ⟨⟨j + 1, HJT.out, by go_num, by rw [HAS.out]; exact HON.out, HXN.out⟩, by have := HJT.out; simp [intOf]; omega⟩
          · have hob : (yop == 11) = false := by simpa using h11
            clear hc h11
            go_wp2_with fail
            exact ⟨⟨j + 1, HJT.out, by go_num, by rw [HAS.out]; exact HON.out, HXN.out⟩, by have := HJT.out; simp [intOf]; omega⟩
      · obtain rfl : j = xbody.length := by omega
        have r1 : ¬ (xbody.length : Int) < (xbody.length : Int) := by omega
        rw [List.take_length] at HO
        clear ho hext hj hlt hvo
        go_wp2
        go_ret
        exact ⟨_, rfl, by rw [HUB.out]; exact HO.out.low HX2.out.size, HX2.out.trans HE.out⟩
  · have hlb2 : loopB (l, out) = false := by rw [hlb]; simpa using hq
    have HUB := Lib.hid (show us = nl by
      have := HUS.out
      rw [if_neg hq, List.append_nil] at this
      exact this)
    rw [hlb2]
    clear hli hlb hq hlb2 HUS HLP HLR
    go_wp2
    go_ret
    exact ⟨_, rfl, by rw [HUB.out]; exact HO4.out.low HX2.out.size, HX4.out⟩
end Go.Proofs.Ytcacicgkebcdkaa
