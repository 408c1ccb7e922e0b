/-
  Layer 12: the program's run and the document's, side by side; one call of both.
-/
import Derived.Test.YtbokblklldphgaaRunRef
import Derived.Test.YtbokblklldphgaaRunNil
namespace Go.Proofs.Ytbokblklldphgaa
open Go.RowKit Go.Ox Go.Shelf
attribute [local irreducible] OE RE RP OP
set_option linter.unusedVariables false
set_option linter.unusedSimpArgs false

theorem sameE_is (v u : Value) (l : List Ent.E) (w : World) (hv : RE w v l) (hu : RE w u l) : Calls Try.prog 19 #[v, u] w fun e w' => e = .returned (.bool true) ∧ Ext w w' := by
  refine (sameE_any v u l l w hv hu).mono ?_
  rw [decide_eq_true rfl]
  exact fun _ _ h => h
theorem sameM_is (v u : Value) (l : List Mom.M) (w : World) (hv : RP w v l) (hu : RP w u l) : Calls Try.prog 21 #[v, u] w fun e w' => e = .returned (.bool true) ∧ Ext w w' := by
  refine (Mo.same_any v u l l w hv hu).mono ?_
  rw [decide_eq_true rfl]
  exact fun _ _ h => h
/-- both runs, of blocks that are not the other's, all of them among Q -/
structure Two (Q : Nat → Prop) (w : World) (g gx : Nat) (lv lx : Value) (a : Int) (l : List Ent.E) (b : Int) (l' : List Ent.E) (b' : Int) : Prop where
  r : RunI 59 w g lv l a b
  x : RunI 49 w gx lx l' a b'
  dj : ∀ k, RunQ g lv k → RunQ gx lx k → False
  offL : ∀ k, RunQ g lv k → Q k
  offR : ∀ k, RunQ gx lx k → Q k
  new : ∀ k, w.heap.size ≤ k → Q k
def TwoE (Q : Nat → Prop) (w : World) (g gx : Nat) (a : Int) (l : List Ent.E) (b : Int) (l' : List Ent.E) (b' : Int) : Prop := ∃ lv lx, Two Q w g gx lv lx a l b l' b'
section
variable {Q Q' : Nat → Prop} {w w' : World} {g gx : Nat} {lv lx lv2 : Value} {a b b' b2 : Int} {l l' l2 : List Ent.E}
theorem Two.ext (h : Two Q w g gx lv lx a l b l' b') (he : Ext w w') : Two Q w' g gx lv lx a l b l' b' :=
  ⟨h.r.ext he, h.x.ext he, h.dj, h.offL, h.offR, fun k hk => h.new k (Nat.le_trans he.size hk)⟩
theorem TwoE.ext (h : TwoE Q w g gx a l b l' b') (he : Ext w w') : TwoE Q w' g gx a l b l' b' := by
  obtain ⟨lv, lx, h⟩ := h
  exact ⟨lv, lx, h.ext he⟩
theorem Two.left (h : Two Q w g gx lv lx a l b l' b') (hr : RunI 59 w' g lv2 l2 a b2) (hn : NewQ w lv lv2) (he : ExtQ (RunQ g lv) w w') : Two Q w' g gx lv2 lx a l2 b2 l' b' := by
  have hq : ∀ k, RunQ g lv2 k → RunQ g lv k ∨ w.heap.size ≤ k := fun k hk => by
    rcases hk with rfl | hk
    · exact .inl (.inl rfl)
    · exact (hn k hk).imp_left .inr
  refine ⟨hr, h.x.extQ he fun k hk hk2 => h.dj k hk2 hk, fun k hk hk2 => ?_, fun k hk => (hq k hk).elim (h.offL k) (h.new k), h.offR, fun k hk => h.new k (Nat.le_trans he.size hk)⟩
  rcases hq k hk with q | q
  · exact h.dj k q hk2
  · have := h.x.lt hk2; omega
theorem Two.right (h : Two Q w g gx lv lx a l b l' b') (hr : RunI 49 w' gx lv2 l2 a b2) (hn : NewQ w lx lv2) (he : ExtQ (RunQ gx lx) w w') : Two Q w' g gx lv lv2 a l b l2 b2 := by
  have hq : ∀ k, RunQ gx lv2 k → RunQ gx lx k ∨ w.heap.size ≤ k := fun k hk => by
    rcases hk with rfl | hk
    · exact .inl (.inl rfl)
    · exact (hn k hk).imp_left .inr
  refine ⟨h.r.extQ he fun k hk hk2 => h.dj k hk hk2, hr, fun k hk hk2 => ?_, h.offL, fun k hk => (hq k hk).elim (h.offR k) (h.new k), fun k hk => h.new k (Nat.le_trans he.size hk)⟩
  rcases hq k hk2 with q | q
  · exact h.dj k hk q
  · have := h.r.lt hk; omega
theorem Two.mono (h : Two Q w g gx lv lx a l b l' b') (hq : ∀ k, Q k → Q' k) : Two Q' w g gx lv lx a l b l' b' := ⟨h.r, h.x, h.dj, fun k hk => hq k (h.offL k hk), fun k hk => hq k (h.offR k hk), fun k hk => hq k (h.new k hk)⟩
theorem TwoE.mono (h : TwoE Q w g gx a l b l' b') (hq : ∀ k, Q k → Q' k) : TwoE Q' w g gx a l b l' b' := by
  obtain ⟨lv, lx, h⟩ := h
  exact ⟨lv, lx, h.mono hq⟩
/-- a box of one's own -/
theorem Two.box (h : Two Q w g gx lv lx a l b l' b') (o : Obj) : Two (fun k => Q k ∧ k ≠ w.heap.size) (w.alloc o) g gx lv lx a l b l' b' := by
  have he : Ext w (w.alloc o) := (Ext.refl w).alloc o
  refine ⟨h.r.ext he, h.x.ext he, h.dj, fun k hk => ⟨h.offL k hk, ?_⟩, fun k hk => ⟨h.offR k hk, ?_⟩, fun k hk => ?_⟩
  · have := h.r.lt hk; omega
  · have := h.x.lt hk; omega
  · simp at hk; exact ⟨h.new k (by omega), by omega⟩
theorem TwoE.box (h : TwoE Q w g gx a l b l' b') (o : Obj) : TwoE (fun k => Q k ∧ k ≠ w.heap.size) (w.alloc o) g gx a l b l' b' := by
  obtain ⟨lv, lx, h⟩ := h
  exact ⟨lv, lx, h.box o⟩
end
/-- what a call of both leaves -/
def DoP (Q : Nat → Prop) (w : World) (g gx : Nat) (a : Int) (l : List Ent.E) (b : Int) (e : Ending) (w' : World) : Prop :=
  e = .returned (.bool true) ∧ ExtQ Q w w' ∧ TwoE Q w' g gx a l b l b
abbrev opV (k : Int) (x : Ent.E) (u : Value) : Value := .agg #[.int .i64 k, .int .i64 x.1.1, .int .i64 x.1.2, .int .i64 x.2.1, .int .i64 x.2.2, u]
theorem DoP.of {Q : Nat → Prop} {w w2 : World} {g gx : Nat} {a : Int} {l : List Ent.E} {b : Int} {o : Obj} (h : TwoE (fun k => Q k ∧ k ≠ w.heap.size) w2 g gx a l b l b) (he : ExtQ (fun k => Q k ∧ k ≠ w.heap.size) (w.alloc o) w2) {e : Ending} (hr : e = .returned (.bool true)) : DoP Q w g gx a l b e w2 :=
  ⟨hr, (ExtQ.of ((Ext.refl w).alloc o)).trans (he.mono fun k hk => hk.1), h.mono fun k hk => hk.1⟩

set_option maxRecDepth 100000 in
set_option maxHeartbeats 2000000 in
theorem do1 (x : Ent.E) (u : Value) {Q : Nat → Prop} {w : World} {g gx : Nat} {a : Int} {l : List Ent.E} {b : Int} (h : TwoE Q w g gx a l b l b) :
    Calls Try.prog 17 #[.pointer (some ⟨g, 0, none⟩), .pointer (some ⟨gx, 0, none⟩), opV 1 x u] w (DoP Q w g gx a (addL l a x) (addM l a b x)) := by
  have HA := Lib.hid (fun (w : World) (lv : Value) (h : RunI 59 w g lv l a b) => add_any x h)
  have HRA := Lib.hid (fun (w : World) (lv : Value) (h : RunI 49 w gx lv l a b) => radd_any x h)
  obtain ⟨⟨x1, x2⟩, x3, x4⟩ := x
  have HT0 := Lib.hid (h.box (.cells #[.int .i64 1, .int .i64 x1, .int .i64 x2, .int .i64 x3, .int .i64 x4, u] 46))
  have HB0 := Lib.hid (Blk.new w 46 #[.int .i64 1, .int .i64 x1, .int .i64 x2, .int .i64 x3, .int .i64 x4, u])
  have HEND := Lib.hid (fun (w2 : World) (l : List Ent.E) (b : Int) (e : Ending) h he hr => @DoP.of Q w w2 g gx a l b (.cells #[.int .i64 1, .int .i64 x1, .int .i64 x2, .int .i64 x3, .int .i64 x4, u] 46) h he e hr)
  clear h
  go_enter Try.func17, Try.ntmps17
  go_upto_region 1 with fail
  generalize w.heap.size = p at *
  generalize w.alloc (.cells #[.int .i64 1, .int .i64 x1, .int .i64 x2, .int .i64 x3, .int .i64 x4, u] 46) = w0 at *
  have c0 : w0.cell? ⟨p, 0, none⟩ = some (.int .i64 1) := HB0.out.cell 0
  go_wp2
  refine wp_regionY [15, 19] [] Ext (ExtQ (fun k => Q k ∧ k ≠ p)) (fun w => TwoE (fun k => Q k ∧ k ≠ p) w g gx a l b l b) (by kernel_rfl) (by rfl) (by rfl) (by kernel_rfl) (by kernel_rfl) (by kernel_rfl) (fun _ _ _ x y => x.trans y) (ExtQ.refl _) (fun _ _ x => ExtQ.of x) (Ext.refl _).drew (fun _ _ x y => x.ext y) (HT0.out) ?_
  repeat (first | (refine wpY_move0 rfl rfl (by first | exact runs0 | exact runs1 rfl) Ext.refl rfl rfl rfl ?_; apply Exists.intro; refine ⟨?_, ?_⟩; · (go_simp; rfl)) | (refine wpY_move rfl rfl (by first | exact runs0 | exact runs1 rfl) Ext.refl rfl rfl rfl (fun _ _ _ h _ => h) ?_) | (refine wpY_val rfl rfl (by first | exact runs0 | exact runs1 rfl) Ext.refl rfl ?_; apply Exists.intro; refine ⟨?_, ?_⟩; · (intro a w' hR; intro h1; (first | (have e1 : _ = _ := h1) | skip); intro h2; (first | (have e2 : _ = _ := h2) | skip); go_simp; rfl)) | (refine wpY_val rfl rfl (by first | exact runs0 | exact runs1 rfl) Ext.refl rfl ?_; apply Exists.intro; refine ⟨?_, ?_⟩; · (intro a w' hR; intro h1; (first | (have e1 : _ = _ := h1) | skip); go_simp; rfl)) | (refine wpY_val rfl rfl (by first | exact runs0 | exact runs1 rfl) Ext.refl rfl ?_; apply Exists.intro; refine ⟨?_, ?_⟩; · (intro a w' hR; go_simp; rfl)) | (refine wpY_val rfl rfl (by first | exact runs0 | exact runs1 rfl) Ext.refl rfl ?_; apply Exists.intro; refine ⟨?_, ?_⟩; · (intro a w' hR; intro h1; (first | (have e1 : _ = _ := h1) | skip); intro h2; (first | (have e2 : _ = _ := h2) | skip); intro h3; (first | (have e3 : _ = _ := h3) | skip); go_simp; rfl)) | (refine wpY_skip rfl rfl (by first | exact .inl rfl | exact .inr rfl) ?_))
  refine wpY_val rfl rfl (by first | exact runs0 | exact runs1 rfl) Ext.refl rfl ?_; apply Exists.intro; refine ⟨?_, ?_⟩
  · intro a w' hR h1
    have e1 : _ = _ := h1
    have hb := HB0.out.extQ hR (fun q => q.2 rfl)
    have hl1 := hb.cell 1
    have hl2 := hb.cell 2
    have hl3 := hb.cell 3
    have hl4 := hb.cell 4
    go_simp
    rfl
  refine wpY_eff (fun v _ => v = .int .i64 (addE l a ((x1, x2), x3, x4))) (fun w => TwoE (fun k => Q k ∧ k ≠ p) w g gx a (addL l a ((x1, x2), x3, x4)) (addM l a b ((x1, x2), x3, x4)) l b) rfl (by first | exact runs0 | exact runs1 rfl) rfl (by first | exact mono_eq | exact (fun _ _ _ h k => Rd.ext h k) | exact (fun _ _ _ h k => RB.ext h k) | exact (fun _ _ _ h k => OB.ext h k) | exact (fun _ _ _ h k => RB.extS h k) | exact (fun _ _ _ h k => Rd.ext h (GrownW.ext k)) | exact (fun _ _ _ h k => RP.ext h k) | exact (fun _ _ _ h k => OP.ext h k) | exact (fun _ _ _ h k => Rd.extV h k) | exact (fun _ _ _ h k => RB.extV h k) | exact (fun _ _ _ h k => E0.ext h k) | exact (fun _ _ _ h k => O0.ext h k) | exact (fun _ _ _ h k => RE.ext h k) | exact (fun _ _ _ h k => RE.extD h k) | exact (fun _ _ _ h _ => h) | exact (fun _ _ _ ⟨n, h1, h2⟩ k => ⟨n, h1, k.st _ _ h2⟩)) (fun _ _ x y => x.ext y) ?_ ?_
  · intro a w' hR hS h1 h2 K hK
    have e1 : _ = _ := h1
    have e2 : _ = _ := h2
    obtain ⟨lv, lx, hT⟩ := hS
    go_simp
    refine (HA.out _ _ hT.r).mono ?_
    rintro e w2 ⟨rfl, lv', hr, hn, he⟩
    exact hK _ _ (he.mono hT.offL) ⟨lv', lx, hT.left hr hn he⟩ rfl
  repeat (first | (refine wpY_move0 rfl rfl (by first | exact runs0 | exact runs1 rfl) Ext.refl rfl rfl rfl ?_; apply Exists.intro; refine ⟨?_, ?_⟩; · (go_simp; rfl)) | (refine wpY_move rfl rfl (by first | exact runs0 | exact runs1 rfl) Ext.refl rfl rfl rfl (fun _ _ _ h _ => h) ?_) | (refine wpY_val rfl rfl (by first | exact runs0 | exact runs1 rfl) Ext.refl rfl ?_; apply Exists.intro; refine ⟨?_, ?_⟩; · (intro a w' hR; intro h1; (first | (have e1 : _ = _ := h1) | skip); intro h2; (first | (have e2 : _ = _ := h2) | skip); go_simp; rfl)) | (refine wpY_val rfl rfl (by first | exact runs0 | exact runs1 rfl) Ext.refl rfl ?_; apply Exists.intro; refine ⟨?_, ?_⟩; · (intro a w' hR; intro h1; (first | (have e1 : _ = _ := h1) | skip); go_simp; rfl)) | (refine wpY_val rfl rfl (by first | exact runs0 | exact runs1 rfl) Ext.refl rfl ?_; apply Exists.intro; refine ⟨?_, ?_⟩; · (intro a w' hR; go_simp; rfl)) | (refine wpY_val rfl rfl (by first | exact runs0 | exact runs1 rfl) Ext.refl rfl ?_; apply Exists.intro; refine ⟨?_, ?_⟩; · (intro a w' hR; intro h1; (first | (have e1 : _ = _ := h1) | skip); intro h2; (first | (have e2 : _ = _ := h2) | skip); intro h3; (first | (have e3 : _ = _ := h3) | skip); go_simp; rfl)) | (refine wpY_skip rfl rfl (by first | exact .inl rfl | exact .inr rfl) ?_))
  refine wpY_val rfl rfl (by first | exact runs0 | exact runs1 rfl) Ext.refl rfl ?_; apply Exists.intro; refine ⟨?_, ?_⟩
  · intro a w' hR h1
    have e1 : _ = _ := h1
    have hb := HB0.out.extQ hR (fun q => q.2 rfl)
    have hl1 := hb.cell 1
    have hl2 := hb.cell 2
    have hl3 := hb.cell 3
    have hl4 := hb.cell 4
    go_simp
    rfl
  refine wpY_eff (fun v _ => v = .int .i64 (addE l a ((x1, x2), x3, x4))) (fun w => TwoE (fun k => Q k ∧ k ≠ p) w g gx a (addL l a ((x1, x2), x3, x4)) (addM l a b ((x1, x2), x3, x4)) (addL l a ((x1, x2), x3, x4)) (addM l a b ((x1, x2), x3, x4))) rfl (by first | exact runs0 | exact runs1 rfl) rfl (by first | exact mono_eq | exact (fun _ _ _ h k => Rd.ext h k) | exact (fun _ _ _ h k => RB.ext h k) | exact (fun _ _ _ h k => OB.ext h k) | exact (fun _ _ _ h k => RB.extS h k) | exact (fun _ _ _ h k => Rd.ext h (GrownW.ext k)) | exact (fun _ _ _ h k => RP.ext h k) | exact (fun _ _ _ h k => OP.ext h k) | exact (fun _ _ _ h k => Rd.extV h k) | exact (fun _ _ _ h k => RB.extV h k) | exact (fun _ _ _ h k => E0.ext h k) | exact (fun _ _ _ h k => O0.ext h k) | exact (fun _ _ _ h k => RE.ext h k) | exact (fun _ _ _ h k => RE.extD h k) | exact (fun _ _ _ h _ => h) | exact (fun _ _ _ ⟨n, h1, h2⟩ k => ⟨n, h1, k.st _ _ h2⟩)) (fun _ _ x y => x.ext y) ?_ ?_
  · intro a w' hR hS h1 h2 K hK
    have e1 : _ = _ := h1
    have e2 : _ = _ := h2
    obtain ⟨lv, lx, hT⟩ := hS
    go_simp
    refine (HRA.out _ _ hT.x).mono ?_
    rintro e w2 ⟨rfl, lv', hr, hn, he⟩
    exact hK _ _ (he.mono hT.offR) ⟨lv, lv', hT.right hr hn he⟩ rfl
  repeat (first | (refine wpY_move0 rfl rfl (by first | exact runs0 | exact runs1 rfl) Ext.refl rfl rfl rfl ?_; apply Exists.intro; refine ⟨?_, ?_⟩; · (go_simp; rfl)) | (refine wpY_move rfl rfl (by first | exact runs0 | exact runs1 rfl) Ext.refl rfl rfl rfl (fun _ _ _ h _ => h) ?_) | (refine wpY_val rfl rfl (by first | exact runs0 | exact runs1 rfl) Ext.refl rfl ?_; apply Exists.intro; refine ⟨?_, ?_⟩; · (intro a w' hR; intro h1; (first | (have e1 : _ = _ := h1) | skip); intro h2; (first | (have e2 : _ = _ := h2) | skip); go_simp; rfl)) | (refine wpY_val rfl rfl (by first | exact runs0 | exact runs1 rfl) Ext.refl rfl ?_; apply Exists.intro; refine ⟨?_, ?_⟩; · (intro a w' hR; intro h1; (first | (have e1 : _ = _ := h1) | skip); go_simp; rfl)) | (refine wpY_val rfl rfl (by first | exact runs0 | exact runs1 rfl) Ext.refl rfl ?_; apply Exists.intro; refine ⟨?_, ?_⟩; · (intro a w' hR; go_simp; rfl)) | (refine wpY_val rfl rfl (by first | exact runs0 | exact runs1 rfl) Ext.refl rfl ?_; apply Exists.intro; refine ⟨?_, ?_⟩; · (intro a w' hR; intro h1; (first | (have e1 : _ = _ := h1) | skip); intro h2; (first | (have e2 : _ = _ := h2) | skip); intro h3; (first | (have e3 : _ = _ := h3) | skip); go_simp; rfl)) | (refine wpY_skip rfl rfl (by first | exact .inl rfl | exact .inr rfl) ?_))
  refine wpY_done ?_
  intro w1 hx hS
  iterate 10 (rintro _ rfl)
  dsimp only [FinV]
  go_simp
  go_wp2
  go_ret
  exact HEND.out _ _ _ _ hS hx rfl
set_option maxRecDepth 100000 in
set_option maxHeartbeats 2000000 in
theorem do3 (x : Ent.E) (u : Value) {Q : Nat → Prop} {w : World} {g gx : Nat} {a : Int} {l : List Ent.E} {b : Int} (h : TwoE Q w g gx a l b l b) :
    Calls Try.prog 17 #[.pointer (some ⟨g, 0, none⟩), .pointer (some ⟨gx, 0, none⟩), opV 3 x u] w (DoP Q w g gx a l b) := by
  have HA := Lib.hid (fun (w : World) (lv : Value) (h : RunI 59 w g lv l a b) => runAt_any x.1 h)
  have HRA := Lib.hid (fun (w : World) (lv : Value) (h : RunI 49 w gx lv l a b) => rrunAt_any x.1 h)
  generalize (Ent.srt l).filter (fun y => decide (y.1 = x.1)) = F at *
  have HSM := Lib.hid (fun u u' w => sameE_is u u' F w)
  obtain ⟨⟨x1, x2⟩, x3, x4⟩ := x
  have HT0 := Lib.hid (h.box (.cells #[.int .i64 3, .int .i64 x1, .int .i64 x2, .int .i64 x3, .int .i64 x4, u] 46))
  have HB0 := Lib.hid (Blk.new w 46 #[.int .i64 3, .int .i64 x1, .int .i64 x2, .int .i64 x3, .int .i64 x4, u])
  have HEND := Lib.hid (fun (w2 : World) (l : List Ent.E) (b : Int) (e : Ending) h he hr => @DoP.of Q w w2 g gx a l b (.cells #[.int .i64 3, .int .i64 x1, .int .i64 x2, .int .i64 x3, .int .i64 x4, u] 46) h he e hr)
  clear h
  go_enter Try.func17, Try.ntmps17
  go_upto_region 1 with fail
  generalize w.heap.size = p at *
  generalize w.alloc (.cells #[.int .i64 3, .int .i64 x1, .int .i64 x2, .int .i64 x3, .int .i64 x4, u] 46) = w0 at *
  have c0 : w0.cell? ⟨p, 0, none⟩ = some (.int .i64 3) := HB0.out.cell 0
  go_wp2
  obtain ⟨lv, lx, hT⟩ := HT0.out
  refine wp_regionY [] [] Ext Ext (fun _ => True) (by kernel_rfl) (by rfl) (by rfl) (by kernel_rfl) (by kernel_rfl) (by kernel_rfl) (fun _ _ _ x y => x.trans y) Ext.refl (fun _ _ x => x) (Ext.refl _).drew (fun _ _ x _ => x) trivial ?_
  repeat (first | (refine wpY_move0 rfl rfl (by first | exact runs0 | exact runs1 rfl) Ext.refl rfl rfl rfl ?_; apply Exists.intro; refine ⟨?_, ?_⟩; · (go_simp; rfl)) | (refine wpY_move rfl rfl (by first | exact runs0 | exact runs1 rfl) Ext.refl rfl rfl rfl (fun _ _ _ h _ => h) ?_) | (refine wpY_val rfl rfl (by first | exact runs0 | exact runs1 rfl) Ext.refl rfl ?_; apply Exists.intro; refine ⟨?_, ?_⟩; · (intro a w' hR; intro h1; (first | (have e1 : _ = _ := h1) | skip); intro h2; (first | (have e2 : _ = _ := h2) | skip); go_simp; rfl)) | (refine wpY_val rfl rfl (by first | exact runs0 | exact runs1 rfl) Ext.refl rfl ?_; apply Exists.intro; refine ⟨?_, ?_⟩; · (intro a w' hR; intro h1; (first | (have e1 : _ = _ := h1) | skip); go_simp; rfl)) | (refine wpY_val rfl rfl (by first | exact runs0 | exact runs1 rfl) Ext.refl rfl ?_; apply Exists.intro; refine ⟨?_, ?_⟩; · (intro a w' hR; go_simp; rfl)) | (refine wpY_val rfl rfl (by first | exact runs0 | exact runs1 rfl) Ext.refl rfl ?_; apply Exists.intro; refine ⟨?_, ?_⟩; · (intro a w' hR; intro h1; (first | (have e1 : _ = _ := h1) | skip); intro h2; (first | (have e2 : _ = _ := h2) | skip); intro h3; (first | (have e3 : _ = _ := h3) | skip); go_simp; rfl)) | (refine wpY_skip rfl rfl (by first | exact .inl rfl | exact .inr rfl) ?_))
  refine wpY_val rfl rfl (by first | exact runs0 | exact runs1 rfl) Ext.refl rfl ?_; apply Exists.intro; refine ⟨?_, ?_⟩
  · intro a w' hR h1
    have e1 : _ = _ := h1
    have hb := HB0.out.ext hR
    have hl1 := hb.cell 1
    have hl2 := hb.cell 2
    go_simp
    rfl
  refine wpY_call (fun v w => RE w v F) rfl rfl (by first | exact runs0 | exact runs1 rfl) rfl (by first | exact mono_eq | exact (fun _ _ _ h k => Rd.ext h k) | exact (fun _ _ _ h k => RB.ext h k) | exact (fun _ _ _ h k => OB.ext h k) | exact (fun _ _ _ h k => RB.extS h k) | exact (fun _ _ _ h k => Rd.ext h (GrownW.ext k)) | exact (fun _ _ _ h k => RP.ext h k) | exact (fun _ _ _ h k => OP.ext h k) | exact (fun _ _ _ h k => Rd.extV h k) | exact (fun _ _ _ h k => RB.extV h k) | exact (fun _ _ _ h k => E0.ext h k) | exact (fun _ _ _ h k => O0.ext h k) | exact (fun _ _ _ h k => RE.ext h k) | exact (fun _ _ _ h k => RE.extD h k) | exact (fun _ _ _ h _ => h) | exact (fun _ _ _ ⟨n, h1, h2⟩ k => ⟨n, h1, k.st _ _ h2⟩)) ?_ ?_
  · intro a w' hR h1 h2 K hK
    have e1 : _ = _ := h1
    have e2 : _ = _ := h2
    go_simp
    refine (HA.out _ _ (hT.r.ext hR)).mono ?_
    rintro e w2 ⟨v9, rfl, ho, he⟩
    exact hK _ _ he ho
  repeat (first | (refine wpY_move0 rfl rfl (by first | exact runs0 | exact runs1 rfl) Ext.refl rfl rfl rfl ?_; apply Exists.intro; refine ⟨?_, ?_⟩; · (go_simp; rfl)) | (refine wpY_move rfl rfl (by first | exact runs0 | exact runs1 rfl) Ext.refl rfl rfl rfl (fun _ _ _ h _ => h) ?_) | (refine wpY_val rfl rfl (by first | exact runs0 | exact runs1 rfl) Ext.refl rfl ?_; apply Exists.intro; refine ⟨?_, ?_⟩; · (intro a w' hR; intro h1; (first | (have e1 : _ = _ := h1) | skip); intro h2; (first | (have e2 : _ = _ := h2) | skip); go_simp; rfl)) | (refine wpY_val rfl rfl (by first | exact runs0 | exact runs1 rfl) Ext.refl rfl ?_; apply Exists.intro; refine ⟨?_, ?_⟩; · (intro a w' hR; intro h1; (first | (have e1 : _ = _ := h1) | skip); go_simp; rfl)) | (refine wpY_val rfl rfl (by first | exact runs0 | exact runs1 rfl) Ext.refl rfl ?_; apply Exists.intro; refine ⟨?_, ?_⟩; · (intro a w' hR; go_simp; rfl)) | (refine wpY_val rfl rfl (by first | exact runs0 | exact runs1 rfl) Ext.refl rfl ?_; apply Exists.intro; refine ⟨?_, ?_⟩; · (intro a w' hR; intro h1; (first | (have e1 : _ = _ := h1) | skip); intro h2; (first | (have e2 : _ = _ := h2) | skip); intro h3; (first | (have e3 : _ = _ := h3) | skip); go_simp; rfl)) | (refine wpY_skip rfl rfl (by first | exact .inl rfl | exact .inr rfl) ?_))
  refine wpY_val rfl rfl (by first | exact runs0 | exact runs1 rfl) Ext.refl rfl ?_; apply Exists.intro; refine ⟨?_, ?_⟩
  · intro a w' hR h1
    have e1 : _ = _ := h1
    have hb := HB0.out.ext hR
    have hl1 := hb.cell 1
    have hl2 := hb.cell 2
    go_simp
    rfl
  refine wpY_call (fun v w => RE w v F) rfl rfl (by first | exact runs0 | exact runs1 rfl) rfl (by first | exact mono_eq | exact (fun _ _ _ h k => Rd.ext h k) | exact (fun _ _ _ h k => RB.ext h k) | exact (fun _ _ _ h k => OB.ext h k) | exact (fun _ _ _ h k => RB.extS h k) | exact (fun _ _ _ h k => Rd.ext h (GrownW.ext k)) | exact (fun _ _ _ h k => RP.ext h k) | exact (fun _ _ _ h k => OP.ext h k) | exact (fun _ _ _ h k => Rd.extV h k) | exact (fun _ _ _ h k => RB.extV h k) | exact (fun _ _ _ h k => E0.ext h k) | exact (fun _ _ _ h k => O0.ext h k) | exact (fun _ _ _ h k => RE.ext h k) | exact (fun _ _ _ h k => RE.extD h k) | exact (fun _ _ _ h _ => h) | exact (fun _ _ _ ⟨n, h1, h2⟩ k => ⟨n, h1, k.st _ _ h2⟩)) ?_ ?_
  · intro a w' hR h1 h2 K hK
    have e1 : _ = _ := h1
    have e2 : _ = _ := h2
    go_simp
    refine (HRA.out _ _ (hT.x.ext hR)).mono ?_
    rintro e w2 ⟨v9, rfl, ho, he⟩
    exact hK _ _ he ho
  repeat (first | (refine wpY_move0 rfl rfl (by first | exact runs0 | exact runs1 rfl) Ext.refl rfl rfl rfl ?_; apply Exists.intro; refine ⟨?_, ?_⟩; · (go_simp; rfl)) | (refine wpY_move rfl rfl (by first | exact runs0 | exact runs1 rfl) Ext.refl rfl rfl rfl (fun _ _ _ h _ => h) ?_) | (refine wpY_val rfl rfl (by first | exact runs0 | exact runs1 rfl) Ext.refl rfl ?_; apply Exists.intro; refine ⟨?_, ?_⟩; · (intro a w' hR; intro h1; (first | (have e1 : _ = _ := h1) | skip); intro h2; (first | (have e2 : _ = _ := h2) | skip); go_simp; rfl)) | (refine wpY_val rfl rfl (by first | exact runs0 | exact runs1 rfl) Ext.refl rfl ?_; apply Exists.intro; refine ⟨?_, ?_⟩; · (intro a w' hR; intro h1; (first | (have e1 : _ = _ := h1) | skip); go_simp; rfl)) | (refine wpY_val rfl rfl (by first | exact runs0 | exact runs1 rfl) Ext.refl rfl ?_; apply Exists.intro; refine ⟨?_, ?_⟩; · (intro a w' hR; go_simp; rfl)) | (refine wpY_val rfl rfl (by first | exact runs0 | exact runs1 rfl) Ext.refl rfl ?_; apply Exists.intro; refine ⟨?_, ?_⟩; · (intro a w' hR; intro h1; (first | (have e1 : _ = _ := h1) | skip); intro h2; (first | (have e2 : _ = _ := h2) | skip); intro h3; (first | (have e3 : _ = _ := h3) | skip); go_simp; rfl)) | (refine wpY_skip rfl rfl (by first | exact .inl rfl | exact .inr rfl) ?_))
  refine wpY_call (fun v _ => v = .bool true) rfl rfl (by first | exact runs0 | exact runs1 rfl) rfl (by first | exact mono_eq | exact (fun _ _ _ h k => Rd.ext h k) | exact (fun _ _ _ h k => RB.ext h k) | exact (fun _ _ _ h k => OB.ext h k) | exact (fun _ _ _ h k => RB.extS h k) | exact (fun _ _ _ h k => Rd.ext h (GrownW.ext k)) | exact (fun _ _ _ h k => RP.ext h k) | exact (fun _ _ _ h k => OP.ext h k) | exact (fun _ _ _ h k => Rd.extV h k) | exact (fun _ _ _ h k => RB.extV h k) | exact (fun _ _ _ h k => E0.ext h k) | exact (fun _ _ _ h k => O0.ext h k) | exact (fun _ _ _ h k => RE.ext h k) | exact (fun _ _ _ h k => RE.extD h k) | exact (fun _ _ _ h _ => h) | exact (fun _ _ _ ⟨n, h1, h2⟩ k => ⟨n, h1, k.st _ _ h2⟩)) ?_ ?_
  · intro a w' hR h1 h2 K hK
    obtain ⟨x, ex, fx⟩ : ∃ x, a.tmps.getD 41 undef = x ∧ (fun v w => RE w v F) x w' := ⟨_, rfl, h1⟩
    obtain ⟨y, ey, fy⟩ : ∃ x, a.tmps.getD 46 undef = x ∧ (fun v w => RE w v F) x w' := ⟨_, rfl, h2⟩
    go_simp
    refine (HSM.out x y w' fx fy).mono ?_
    rintro e w2 ⟨rfl, he⟩
    exact hK _ _ he rfl
  repeat (first | (refine wpY_move0 rfl rfl (by first | exact runs0 | exact runs1 rfl) Ext.refl rfl rfl rfl ?_; apply Exists.intro; refine ⟨?_, ?_⟩; · (go_simp; rfl)) | (refine wpY_move rfl rfl (by first | exact runs0 | exact runs1 rfl) Ext.refl rfl rfl rfl (fun _ _ _ h _ => h) ?_) | (refine wpY_val rfl rfl (by first | exact runs0 | exact runs1 rfl) Ext.refl rfl ?_; apply Exists.intro; refine ⟨?_, ?_⟩; · (intro a w' hR; intro h1; (first | (have e1 : _ = _ := h1) | skip); intro h2; (first | (have e2 : _ = _ := h2) | skip); go_simp; rfl)) | (refine wpY_val rfl rfl (by first | exact runs0 | exact runs1 rfl) Ext.refl rfl ?_; apply Exists.intro; refine ⟨?_, ?_⟩; · (intro a w' hR; intro h1; (first | (have e1 : _ = _ := h1) | skip); go_simp; rfl)) | (refine wpY_val rfl rfl (by first | exact runs0 | exact runs1 rfl) Ext.refl rfl ?_; apply Exists.intro; refine ⟨?_, ?_⟩; · (intro a w' hR; go_simp; rfl)) | (refine wpY_val rfl rfl (by first | exact runs0 | exact runs1 rfl) Ext.refl rfl ?_; apply Exists.intro; refine ⟨?_, ?_⟩; · (intro a w' hR; intro h1; (first | (have e1 : _ = _ := h1) | skip); intro h2; (first | (have e2 : _ = _ := h2) | skip); intro h3; (first | (have e3 : _ = _ := h3) | skip); go_simp; rfl)) | (refine wpY_skip rfl rfl (by first | exact .inl rfl | exact .inr rfl) ?_))
  refine wpY_done ?_
  intro w1 hx hS
  iterate 4 (rintro _ rfl)
  rintro v41 h41
  iterate 4 (rintro _ rfl)
  rintro v46 h46
  iterate 2 (rintro _ rfl)
  dsimp only [FinV]
  go_simp
  have hx : Ext w0 w1 := hx
  go_wp2
  go_ret
  exact HEND.out _ _ _ _ (HT0.out.ext hx) (ExtQ.of hx) rfl
set_option maxRecDepth 100000 in
set_option maxHeartbeats 2000000 in
theorem do4 (x : Ent.E) (u : Value) (f : List Mom.M) {Q : Nat → Prop} {w : World} {g gx : Nat} {a : Int} {l : List Ent.E} {b : Int} (h : TwoE Q w g gx a l b l b) (hu : ∀ W, ExtQ Q w W → RP W u f) (hf : f.length ≤ 1000000) :
    Calls Try.prog 17 #[.pointer (some ⟨g, 0, none⟩), .pointer (some ⟨gx, 0, none⟩), opV 4 x u] w (DoP Q w g gx a (Ent.bhd l f) b) := by
  have HA := Lib.hid (fun (w : World) (lv : Value) (h : RunI 59 w g lv l a b) hu => runKeep_any u f h hu hf)
  have HRA := Lib.hid (fun (w : World) (lv : Value) (h : RunI 49 w gx lv l a b) hu => rrunKeep_any u f h hu hf)
  obtain ⟨⟨x1, x2⟩, x3, x4⟩ := x
  have HU := Lib.hid (fun (W : World) (he : ExtQ (fun k => Q k ∧ k ≠ w.heap.size) (w.alloc (.cells #[.int .i64 4, .int .i64 x1, .int .i64 x2, .int .i64 x3, .int .i64 x4, u] 46)) W) => hu W ((ExtQ.of ((Ext.refl w).alloc _)).trans (he.mono fun k hk => hk.1)))
  have HT0 := Lib.hid (h.box (.cells #[.int .i64 4, .int .i64 x1, .int .i64 x2, .int .i64 x3, .int .i64 x4, u] 46))
  have HB0 := Lib.hid (Blk.new w 46 #[.int .i64 4, .int .i64 x1, .int .i64 x2, .int .i64 x3, .int .i64 x4, u])
  have HEND := Lib.hid (fun (w2 : World) (l : List Ent.E) (b : Int) (e : Ending) h he hr => @DoP.of Q w w2 g gx a l b (.cells #[.int .i64 4, .int .i64 x1, .int .i64 x2, .int .i64 x3, .int .i64 x4, u] 46) h he e hr)
  obtain ⟨A, c, rfl⟩ := (hu w (ExtQ.refl _ _)).form
  clear h hu
  generalize hD : (l.length : Int) - ((Ent.bhd l f).length : Int) = D at *
  clear hD
  generalize Ent.bhd l f = bh at *
  go_enter Try.func17, Try.ntmps17
  go_upto_region 1 with fail
  generalize w.heap.size = p at *
  generalize w.alloc (.cells #[.int .i64 4, .int .i64 x1, .int .i64 x2, .int .i64 x3, .int .i64 x4, .slice A f.length c] 46) = w0 at *
  have c0 : w0.cell? ⟨p, 0, none⟩ = some (.int .i64 4) := HB0.out.cell 0
  go_wp2
  refine wp_regionY [53, 57] [] Ext (ExtQ (fun k => Q k ∧ k ≠ p)) (fun w => TwoE (fun k => Q k ∧ k ≠ p) w g gx a l b l b) (by kernel_rfl) (by rfl) (by rfl) (by kernel_rfl) (by kernel_rfl) (by kernel_rfl) (fun _ _ _ x y => x.trans y) (ExtQ.refl _) (fun _ _ x => ExtQ.of x) (Ext.refl _).drew (fun _ _ x y => x.ext y) (HT0.out) ?_
  repeat (first | (refine wpY_move0 rfl rfl (by first | exact runs0 | exact runs1 rfl) Ext.refl rfl rfl rfl ?_; apply Exists.intro; refine ⟨?_, ?_⟩; · (go_simp; rfl)) | (refine wpY_move rfl rfl (by first | exact runs0 | exact runs1 rfl) Ext.refl rfl rfl rfl (fun _ _ _ h _ => h) ?_) | (refine wpY_val rfl rfl (by first | exact runs0 | exact runs1 rfl) Ext.refl rfl ?_; apply Exists.intro; refine ⟨?_, ?_⟩; · (intro a w' hR; intro h1; (first | (have e1 : _ = _ := h1) | skip); intro h2; (first | (have e2 : _ = _ := h2) | skip); go_simp; rfl)) | (refine wpY_val rfl rfl (by first | exact runs0 | exact runs1 rfl) Ext.refl rfl ?_; apply Exists.intro; refine ⟨?_, ?_⟩; · (intro a w' hR; intro h1; (first | (have e1 : _ = _ := h1) | skip); go_simp; rfl)) | (refine wpY_val rfl rfl (by first | exact runs0 | exact runs1 rfl) Ext.refl rfl ?_; apply Exists.intro; refine ⟨?_, ?_⟩; · (intro a w' hR; go_simp; rfl)) | (refine wpY_val rfl rfl (by first | exact runs0 | exact runs1 rfl) Ext.refl rfl ?_; apply Exists.intro; refine ⟨?_, ?_⟩; · (intro a w' hR; intro h1; (first | (have e1 : _ = _ := h1) | skip); intro h2; (first | (have e2 : _ = _ := h2) | skip); intro h3; (first | (have e3 : _ = _ := h3) | skip); go_simp; rfl)) | (refine wpY_skip rfl rfl (by first | exact .inl rfl | exact .inr rfl) ?_))
  refine wpY_val rfl rfl (by first | exact runs0 | exact runs1 rfl) Ext.refl rfl ?_; apply Exists.intro; refine ⟨?_, ?_⟩
  · intro a w' hR h1
    have e1 : _ = _ := h1
    have hb := HB0.out.extQ hR (fun q => q.2 rfl)
    have hl5 := hb.cell 5
    go_simp
    rfl
  refine wpY_eff (fun v _ => v = .int .i64 D) (fun w => TwoE (fun k => Q k ∧ k ≠ p) w g gx a bh b l b) rfl (by first | exact runs0 | exact runs1 rfl) rfl (by first | exact mono_eq | exact (fun _ _ _ h k => Rd.ext h k) | exact (fun _ _ _ h k => RB.ext h k) | exact (fun _ _ _ h k => OB.ext h k) | exact (fun _ _ _ h k => RB.extS h k) | exact (fun _ _ _ h k => Rd.ext h (GrownW.ext k)) | exact (fun _ _ _ h k => RP.ext h k) | exact (fun _ _ _ h k => OP.ext h k) | exact (fun _ _ _ h k => Rd.extV h k) | exact (fun _ _ _ h k => RB.extV h k) | exact (fun _ _ _ h k => E0.ext h k) | exact (fun _ _ _ h k => O0.ext h k) | exact (fun _ _ _ h k => RE.ext h k) | exact (fun _ _ _ h k => RE.extD h k) | exact (fun _ _ _ h _ => h) | exact (fun _ _ _ ⟨n, h1, h2⟩ k => ⟨n, h1, k.st _ _ h2⟩)) (fun _ _ x y => x.ext y) ?_ ?_
  · intro a w' hR hS h1 h2 K hK
    have e1 : _ = _ := h1
    have e2 : _ = _ := h2
    obtain ⟨lv, lx, hT⟩ := hS
    go_simp
    refine (HA.out _ _ hT.r (fun W he => HU.out W (hR.trans (he.mono hT.offL)))).mono ?_
    rintro e w2 ⟨rfl, lv', hr, hn, he⟩
    exact hK _ _ (he.mono hT.offL) ⟨lv', lx, hT.left hr hn he⟩ rfl
  repeat (first | (refine wpY_move0 rfl rfl (by first | exact runs0 | exact runs1 rfl) Ext.refl rfl rfl rfl ?_; apply Exists.intro; refine ⟨?_, ?_⟩; · (go_simp; rfl)) | (refine wpY_move rfl rfl (by first | exact runs0 | exact runs1 rfl) Ext.refl rfl rfl rfl (fun _ _ _ h _ => h) ?_) | (refine wpY_val rfl rfl (by first | exact runs0 | exact runs1 rfl) Ext.refl rfl ?_; apply Exists.intro; refine ⟨?_, ?_⟩; · (intro a w' hR; intro h1; (first | (have e1 : _ = _ := h1) | skip); intro h2; (first | (have e2 : _ = _ := h2) | skip); go_simp; rfl)) | (refine wpY_val rfl rfl (by first | exact runs0 | exact runs1 rfl) Ext.refl rfl ?_; apply Exists.intro; refine ⟨?_, ?_⟩; · (intro a w' hR; intro h1; (first | (have e1 : _ = _ := h1) | skip); go_simp; rfl)) | (refine wpY_val rfl rfl (by first | exact runs0 | exact runs1 rfl) Ext.refl rfl ?_; apply Exists.intro; refine ⟨?_, ?_⟩; · (intro a w' hR; go_simp; rfl)) | (refine wpY_val rfl rfl (by first | exact runs0 | exact runs1 rfl) Ext.refl rfl ?_; apply Exists.intro; refine ⟨?_, ?_⟩; · (intro a w' hR; intro h1; (first | (have e1 : _ = _ := h1) | skip); intro h2; (first | (have e2 : _ = _ := h2) | skip); intro h3; (first | (have e3 : _ = _ := h3) | skip); go_simp; rfl)) | (refine wpY_skip rfl rfl (by first | exact .inl rfl | exact .inr rfl) ?_))
  refine wpY_val rfl rfl (by first | exact runs0 | exact runs1 rfl) Ext.refl rfl ?_; apply Exists.intro; refine ⟨?_, ?_⟩
  · intro a w' hR h1
    have e1 : _ = _ := h1
    have hb := HB0.out.extQ hR (fun q => q.2 rfl)
    have hl5 := hb.cell 5
    go_simp
    rfl
  refine wpY_eff (fun v _ => v = .int .i64 D) (fun w => TwoE (fun k => Q k ∧ k ≠ p) w g gx a bh b bh b) rfl (by first | exact runs0 | exact runs1 rfl) rfl (by first | exact mono_eq | exact (fun _ _ _ h k => Rd.ext h k) | exact (fun _ _ _ h k => RB.ext h k) | exact (fun _ _ _ h k => OB.ext h k) | exact (fun _ _ _ h k => RB.extS h k) | exact (fun _ _ _ h k => Rd.ext h (GrownW.ext k)) | exact (fun _ _ _ h k => RP.ext h k) | exact (fun _ _ _ h k => OP.ext h k) | exact (fun _ _ _ h k => Rd.extV h k) | exact (fun _ _ _ h k => RB.extV h k) | exact (fun _ _ _ h k => E0.ext h k) | exact (fun _ _ _ h k => O0.ext h k) | exact (fun _ _ _ h k => RE.ext h k) | exact (fun _ _ _ h k => RE.extD h k) | exact (fun _ _ _ h _ => h) | exact (fun _ _ _ ⟨n, h1, h2⟩ k => ⟨n, h1, k.st _ _ h2⟩)) (fun _ _ x y => x.ext y) ?_ ?_
  · intro a w' hR hS h1 h2 K hK
    have e1 : _ = _ := h1
    have e2 : _ = _ := h2
    obtain ⟨lv, lx, hT⟩ := hS
    go_simp
    refine (HRA.out _ _ hT.x (HU.out _ hR)).mono ?_
    rintro e w2 ⟨rfl, lv', hr, hn, he⟩
    exact hK _ _ (he.mono hT.offR) ⟨lv, lv', hT.right hr hn he⟩ rfl
  repeat (first | (refine wpY_move0 rfl rfl (by first | exact runs0 | exact runs1 rfl) Ext.refl rfl rfl rfl ?_; apply Exists.intro; refine ⟨?_, ?_⟩; · (go_simp; rfl)) | (refine wpY_move rfl rfl (by first | exact runs0 | exact runs1 rfl) Ext.refl rfl rfl rfl (fun _ _ _ h _ => h) ?_) | (refine wpY_val rfl rfl (by first | exact runs0 | exact runs1 rfl) Ext.refl rfl ?_; apply Exists.intro; refine ⟨?_, ?_⟩; · (intro a w' hR; intro h1; (first | (have e1 : _ = _ := h1) | skip); intro h2; (first | (have e2 : _ = _ := h2) | skip); go_simp; rfl)) | (refine wpY_val rfl rfl (by first | exact runs0 | exact runs1 rfl) Ext.refl rfl ?_; apply Exists.intro; refine ⟨?_, ?_⟩; · (intro a w' hR; intro h1; (first | (have e1 : _ = _ := h1) | skip); go_simp; rfl)) | (refine wpY_val rfl rfl (by first | exact runs0 | exact runs1 rfl) Ext.refl rfl ?_; apply Exists.intro; refine ⟨?_, ?_⟩; · (intro a w' hR; go_simp; rfl)) | (refine wpY_val rfl rfl (by first | exact runs0 | exact runs1 rfl) Ext.refl rfl ?_; apply Exists.intro; refine ⟨?_, ?_⟩; · (intro a w' hR; intro h1; (first | (have e1 : _ = _ := h1) | skip); intro h2; (first | (have e2 : _ = _ := h2) | skip); intro h3; (first | (have e3 : _ = _ := h3) | skip); go_simp; rfl)) | (refine wpY_skip rfl rfl (by first | exact .inl rfl | exact .inr rfl) ?_))
  refine wpY_done ?_
  intro w1 hx hS
  iterate 10 (rintro _ rfl)
  dsimp only [FinV]
  go_simp
  go_wp2
  go_ret
  exact HEND.out _ _ _ _ hS hx rfl
set_option maxRecDepth 100000 in
set_option maxHeartbeats 2000000 in
theorem do2 (x : Ent.E) (u : Value) {Q : Nat → Prop} {w : World} {g gx : Nat} {a : Int} {l : List Ent.E} {b : Int} (h : TwoE Q w g gx a l b l b) :
    Calls Try.prog 17 #[.pointer (some ⟨g, 0, none⟩), .pointer (some ⟨gx, 0, none⟩), opV 2 x u] w (DoP Q w g gx a [] b) := by
  obtain ⟨⟨x1, x2⟩, x3, x4⟩ := x
  have HT0 := Lib.hid (h.box (.cells #[.int .i64 2, .int .i64 x1, .int .i64 x2, .int .i64 x3, .int .i64 x4, u] 46))
  have HB0 := Lib.hid (Blk.new w 46 #[.int .i64 2, .int .i64 x1, .int .i64 x2, .int .i64 x3, .int .i64 x4, u])
  have HEND := Lib.hid (fun (w2 : World) (l : List Ent.E) (b : Int) (e : Ending) h he hr => @DoP.of Q w w2 g gx a l b (.cells #[.int .i64 2, .int .i64 x1, .int .i64 x2, .int .i64 x3, .int .i64 x4, u] 46) h he e hr)
  have HSM := Lib.hid (fun u u' w => sameE_is u u' (Ent.srt l) w)
  have HSRT := Lib.hid (fun v w h1 h2 => rsortE_any l v w h1 h2)
  clear h
  go_enter Try.func17, Try.ntmps17
  go_upto_region 1 with fail
  generalize w.heap.size = p at *
  generalize w.alloc (.cells #[.int .i64 2, .int .i64 x1, .int .i64 x2, .int .i64 x3, .int .i64 x4, u] 46) = w0 at *
  have c0 : w0.cell? ⟨p, 0, none⟩ = some (.int .i64 2) := HB0.out.cell 0
  obtain ⟨lv, lx, hT⟩ := HT0.out
  obtain ⟨A, c, rfl⟩ := hT.x.own.re.form
  have hbd := hT.x.bd
  have HT := Lib.hid hT
  obtain ⟨d0, d1, d2, f0, f2⟩ := hT.x.cells
  clear hT HT0
  go_wp2_with fail
  refine (HSRT.out _ _ HT.out.x.own.re (by omega)).mono ?_
  rintro e w1 ⟨v1, rfl, ho1, he1⟩
  have hT1 := HT.out.ext he1
  obtain ⟨c0', c1', c2', f0', f2'⟩ := hT1.x.cells
  have hrx : RunI 49 (w1.setCell ⟨gx, 0, none⟩ (.slice none 0 0)) gx (.slice none 0 0) [] a b := RunI.put hT1.x.blk (OE.nilS _ _ _) hT1.x.lim (by have := hT1.x.lim; simp; omega) hT1.x.most
  have hex : ExtQ (RunQ gx (.slice A l.length c)) w1 (w1.setCell ⟨gx, 0, none⟩ (.slice none 0 0)) := ExtQ.setCell (ExtQ.refl _ _) (p := ⟨gx, 0, none⟩) (.inl rfl) _
  have hT2 := hT1.right hrx (fun k hk => by cases hk) hex
  have HX2 := Lib.hid ((ExtQ.of he1).trans (hex.mono hT1.offR))
  have ho2 : RE (w1.setCell ⟨gx, 0, none⟩ (.slice none 0 0)) v1 (Ent.srt l) := (ext_own ho1 hex (fun k hk q => by have h1 := ho1.lt hk; have h2 := HT.out.x.lt q; omega)).re
  have HO2 := Lib.hid ho2
  have HB1 := Lib.hid (fun k q => ho1.lt (g := k) q)
  have HSZ := Lib.hid he1.size
  obtain ⟨A1, cc1, rfl⟩ := ho1.re.form
  have HTK := Lib.hid (take_any hT2.r)
  have HT2 := Lib.hid hT2
  have HOWN := Lib.hid (ext_own ho1 hex (fun k hk q => by have h1 := ho1.lt hk; have h2 := HT.out.x.lt q; omega))
  clear hT1 hT2 hrx hex ho1 ho2 he1 c0 d0 d1 d2 f0 f2
  go_wp2_with fail
  generalize w1.setCell ⟨gx, 0, none⟩ (.slice none 0 0) = w2 at *
  refine HTK.out.mono ?_
  rintro e w3 ⟨v3, rfl, ho3, hr3, hx3⟩
  have hT3 := HT2.out.left hr3 (fun k hk => by cases hk) hx3
  have ho4 : RE w3 (.slice A1 (Ent.srt l).length cc1) (Ent.srt l) := (ext_own HOWN.out hx3 (fun k hk q => by have h1 := HB1.out k hk; have h2 := HT.out.r.lt q; omega)).re
  have HSM3 := Lib.hid (HSM.out _ _ _ ho3 ho4)
  have HX3 := Lib.hid (HX2.out.trans (hx3.mono HT2.out.offL))
  obtain ⟨A3, cc3, rfl⟩ := ho3.form
  clear ho3 hr3 hx3 ho4
  go_wp2_with fail
  refine HSM3.out.mono ?_
  rintro e w4 ⟨rfl, he4⟩
  have HT4 := Lib.hid (hT3.ext he4)
  have HX4 := Lib.hid (HX3.out.trans (ExtQ.of he4))
  clear he4 hT3
  go_wp2
  go_ret
  exact HEND.out _ _ _ _ ⟨_, _, HT4.out⟩ HX4.out rfl
set_option maxRecDepth 100000 in
set_option maxHeartbeats 400000 in
theorem do0 (n : Int) (x : Ent.E) (u : Value) {Q : Nat → Prop} {w : World} {g gx : Nat} {a : Int} {l : List Ent.E} {b : Int} (h : TwoE Q w g gx a l b l b) (h1 : n ≠ 1) (h2 : n ≠ 2) (h3 : n ≠ 3) (h4 : n ≠ 4) :
    Calls Try.prog 17 #[.pointer (some ⟨g, 0, none⟩), .pointer (some ⟨gx, 0, none⟩), opV n x u] w (DoP Q w g gx a l b) := by
  obtain ⟨⟨x1, x2⟩, x3, x4⟩ := x
  have HT0 := Lib.hid (h.box (.cells #[.int .i64 n, .int .i64 x1, .int .i64 x2, .int .i64 x3, .int .i64 x4, u] 46))
  have HB0 := Lib.hid (Blk.new w 46 #[.int .i64 n, .int .i64 x1, .int .i64 x2, .int .i64 x3, .int .i64 x4, u])
  have HEND := Lib.hid (fun (w2 : World) (l : List Ent.E) (b : Int) (e : Ending) h he hr => @DoP.of Q w w2 g gx a l b (.cells #[.int .i64 n, .int .i64 x1, .int .i64 x2, .int .i64 x3, .int .i64 x4, u] 46) h he e hr)
  clear h
  go_enter Try.func17, Try.ntmps17
  go_upto_region 1 with fail
  generalize w.heap.size = p at *
  generalize w.alloc (.cells #[.int .i64 n, .int .i64 x1, .int .i64 x2, .int .i64 x3, .int .i64 x4, u] 46) = w0 at *
  have c0 : w0.cell? ⟨p, 0, none⟩ = some (.int .i64 n) := HB0.out.cell 0
  go_wp2
  go_ret
  exact HEND.out _ _ _ _ HT0.out (ExtQ.refl _ _) rfl
/-- what both hold behind a call -/
def stpL (n : Int) (x : Ent.E) (f : List Mom.M) (l : List Ent.E) (a : Int) : List Ent.E := if n = 1 then addL l a x else if n = 2 then [] else if n = 4 then Ent.bhd l f else l
def stpB (n : Int) (x : Ent.E) (l : List Ent.E) (a b : Int) : Int := if n = 1 then addM l a b x else b
theorem do_any (n : Int) (x : Ent.E) (u : Value) (f : List Mom.M) {Q : Nat → Prop} {w : World} {g gx : Nat} {a : Int} {l : List Ent.E} {b : Int} (h : TwoE Q w g gx a l b l b) (hu : ∀ W, ExtQ Q w W → RP W u f) (hf : f.length ≤ 1000000) :
    Calls Try.prog 17 #[.pointer (some ⟨g, 0, none⟩), .pointer (some ⟨gx, 0, none⟩), opV n x u] w (DoP Q w g gx a (stpL n x f l a) (stpB n x l a b)) := by
  unfold stpL stpB
  by_cases h1 : n = 1
  · subst h1
    rw [if_pos rfl, if_pos rfl]
    exact do1 x u h
  rw [if_neg h1, if_neg h1]
  by_cases h2 : n = 2
  · subst h2
    rw [if_pos rfl]
    exact do2 x u h
  rw [if_neg h2]
  by_cases h4 : n = 4
  · subst h4
    rw [if_pos rfl]
    exact do4 x u f h hu hf
  rw [if_neg h4]
  by_cases h3 : n = 3
  · subst h3; exact do3 x u h
  exact do0 n x u h h1 h2 h3 h4
end Go.Proofs.Ytbokblklldphgaa
