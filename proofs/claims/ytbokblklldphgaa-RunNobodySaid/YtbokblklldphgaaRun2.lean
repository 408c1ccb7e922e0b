/-
  Package run: only, At, Keep.
-/
import Derived.Test.YtbokblklldphgaaRun
namespace Go.Proofs.Ytbokblklldphgaa
open Go.RowKit Go.Ox Go.Shelf
attribute [local irreducible] OE RE RP OP
set_option linter.unusedVariables false
set_option linter.unusedSimpArgs false

set_option maxRecDepth 100000 in
set_option maxHeartbeats 1000000 in
theorem is_any (m : Int × Int) (x : Ent.E) (w : World) :
    Calls Try.prog 38 #[mV m, entV x] w fun e w' => e = .returned (.bool (decide (x.1 = m))) ∧ Ext w w' := by
  obtain ⟨m1, m2⟩ := m
  obtain ⟨⟨x1, x2⟩, x3, x4⟩ := x
  have HX0 := Lib.hid ((Ext.refl w).alloc (.cells #[.int .i64 m1, .int .i64 m2] 66))
  have HB0 := Lib.hid (Blk.new w 66 #[.int .i64 m1, .int .i64 m2])
  obtain ⟨w0, hw0⟩ : ∃ w0, w.alloc (.cells #[.int .i64 m1, .int .i64 m2] 66) = w0 := ⟨_, rfl⟩
  rw [hw0] at HX0 HB0
  have HX1 := Lib.hid ((Ext.refl w0).alloc (.cells #[.int .i64 x1, .int .i64 x2, .int .i64 x3, .int .i64 x4] 33))
  obtain ⟨y0, y1, y2, y3⟩ := Bx4.new w0 33 x1 x2 x3 x4
  have d0 : (w0.alloc (.cells #[.int .i64 x1, .int .i64 x2, .int .i64 x3, .int .i64 x4] 33)).cell? ⟨w.heap.size, 0, none⟩ = some (.int .i64 m1) := HX1.out.cell (HB0.out.cell 0)
  have d1 : (w0.alloc (.cells #[.int .i64 x1, .int .i64 x2, .int .i64 x3, .int .i64 x4] 33)).cell? ⟨w.heap.size, 1, none⟩ = some (.int .i64 m2) := HX1.out.cell (HB0.out.cell 1)
  by_cases h1 : x1 = m1
  · by_cases h2 : x2 = m2
    · have hr : decide (((x1, x2), x3, x4).1 = (m1, m2)) = true := decide_eq_true (by rw [h1, h2])
      rw [hr]
      clear hr
      subst h1 h2
      go_enter Try.func38, Try.ntmps38
      go_upto_region 1 with fail
      try rw [hw0]
      generalize w.heap.size = p at *
      generalize w0.heap.size = q at *
      generalize w0.alloc (.cells #[.int .i64 x1, .int .i64 x2, .int .i64 x3, .int .i64 x4] 33) = w1 at *
      go_wp2
      go_ret
      exact ⟨rfl, HX0.out.trans HX1.out⟩
    · have hr : decide (((x1, x2), x3, x4).1 = (m1, m2)) = false := decide_eq_false (fun q => h2 (by injection q))
      rw [hr]
      clear hr
      subst h1
      go_enter Try.func38, Try.ntmps38
      go_upto_region 1 with fail
      try rw [hw0]
      generalize w.heap.size = p at *
      generalize w0.heap.size = q at *
      generalize w0.alloc (.cells #[.int .i64 x1, .int .i64 x2, .int .i64 x3, .int .i64 x4] 33) = w1 at *
      go_wp2
      go_ret
      exact ⟨rfl, HX0.out.trans HX1.out⟩
  · have hr : decide (((x1, x2), x3, x4).1 = (m1, m2)) = false := decide_eq_false (fun q => h1 (by injection q))
    rw [hr]
    clear hr
    go_enter Try.func38, Try.ntmps38
    go_upto_region 1 with fail
    try rw [hw0]
    generalize w.heap.size = p at *
    generalize w0.heap.size = q at *
    generalize w0.alloc (.cells #[.int .i64 x1, .int .i64 x2, .int .i64 x3, .int .i64 x4] 33) = w1 at *
    go_wp2
    go_ret
    exact ⟨rfl, HX0.out.trans HX1.out⟩

set_option maxRecDepth 100000 in
set_option maxHeartbeats 1000000 in
theorem keep1_any (g : Nat) (fv : Value) (f : List (Int × Int)) (x : Ent.E) (w : World) (hc : w.cell? ⟨g, 0, none⟩ = some fv) (hr : RP w fv f) (hl : f.length ≤ 1000000) :
    Calls Try.prog 39 #[entV x, .pointer (some ⟨g, 0, none⟩)] w fun e w' => e = .returned (.bool (Mom.covers f x.1)) ∧ Ext w w' := by
  have HC := Lib.hid (fun w h => Mo.covers_any fv f x.1 w h (by omega))
  obtain ⟨⟨x1, x2⟩, x3, x4⟩ := x
  have hxl : Ext w (w.alloc (.cells #[.int .i64 x1, .int .i64 x2, .int .i64 x3, .int .i64 x4] 33)) := (Ext.refl _).alloc _
  have HX := Lib.hid hxl
  have HR := Lib.hid (hr.ext hxl)
  have hc := hxl.cell hc
  obtain ⟨y0, y1, y2, y3⟩ := Bx4.new w 33 x1 x2 x3 x4
  obtain ⟨Af, cf, rfl⟩ := hr.form
  dsimp only at *
  clear hr hxl
  go_enter Try.func39, Try.ntmps39
  go_wp2_with fail
  refine (HC.out _ HR.out).mono ?_
  rintro e w1 ⟨rfl, he1⟩
  go_wp2
  go_ret
  exact ⟨rfl, HX.out.trans he1⟩

/-! ### only -/
set_option maxRecDepth 100000 in
set_option maxHeartbeats 1000000 in
theorem only1_is (m : Int × Int) (q : Nat) (x : Ent.E) (w : World) (hc : w.cell? ⟨q, 0, none⟩ = some (.func (.func 38) #[mV m] #[])) :
    Calls Try.prog 56 #[entV x, .pointer (some ⟨q, 0, none⟩)] w fun e w' => e = .returned (.bool (!decide (x.1 = m))) ∧ Ext w w' := by
  have HC := Lib.hid (fun w => is_any m x w)
  obtain ⟨⟨x1, x2⟩, x3, x4⟩ := x
  have hxl : Ext w (w.alloc (.cells #[.int .i64 x1, .int .i64 x2, .int .i64 x3, .int .i64 x4] 33)) := (Ext.refl _).alloc _
  have HX := Lib.hid hxl
  have hc := hxl.cell hc
  obtain ⟨y0, y1, y2, y3⟩ := Bx4.new w 33 x1 x2 x3 x4
  dsimp only at *
  clear hxl
  go_enter Try.func56, Try.ntmps56
  go_wp2_with fail
  refine (HC.out _).mono ?_
  rintro e w1 ⟨rfl, he1⟩
  go_wp2
  go_ret
  exact ⟨rfl, HX.out.trans he1⟩
set_option maxRecDepth 100000 in
set_option maxHeartbeats 1000000 in
theorem only1_keep (q p : Nat) (fv : Value) (f : List (Int × Int)) (x : Ent.E) (w : World) (hc : w.cell? ⟨q, 0, none⟩ = some (.func (.func 39) #[] #[.pointer (some ⟨p, 0, none⟩)])) (hp : w.cell? ⟨p, 0, none⟩ = some fv) (hr : RP w fv f) (hl : f.length ≤ 1000000) :
    Calls Try.prog 56 #[entV x, .pointer (some ⟨q, 0, none⟩)] w fun e w' => e = .returned (.bool (!Mom.covers f x.1)) ∧ Ext w w' := by
  have HC := Lib.hid (fun w h1 h2 => keep1_any p fv f x w h1 h2 hl)
  obtain ⟨⟨x1, x2⟩, x3, x4⟩ := x
  have hxl : Ext w (w.alloc (.cells #[.int .i64 x1, .int .i64 x2, .int .i64 x3, .int .i64 x4] 33)) := (Ext.refl _).alloc _
  have HX := Lib.hid hxl
  have hc := hxl.cell hc
  have HP := Lib.hid (hxl.cell hp)
  have HR := Lib.hid (hr.ext hxl)
  obtain ⟨y0, y1, y2, y3⟩ := Bx4.new w 33 x1 x2 x3 x4
  dsimp only at *
  clear hxl hp hr
  go_enter Try.func56, Try.ntmps56
  go_wp2_with fail
  refine (HC.out _ HP.out HR.out).mono ?_
  rintro e w1 ⟨rfl, he1⟩
  go_wp2
  go_ret
  exact ⟨rfl, HX.out.trans he1⟩
/-- entries of which something holds -/
def delP (p : Ent.E → Bool) (s : Unit) (x : Ent.E) : Bool × Unit := (!p x, s)
theorem keepP (p : Ent.E → Bool) (l : List Ent.E) : keepS (delP p) () l = l.filter p := by
  have h : keepS (delP p) () l = l.filter fun x => !(!p x) := keepS_pure (fun x : Ent.E => !p x) l
  rw [h]
  simp
set_option maxRecDepth 100000 in
set_option maxHeartbeats 2000000 in
theorem only_any (p : Ent.E → Bool) (gi : Nat) (pre cap : Array Value) (v : Value) (l : List Ent.E) (base b : Nat) (w : World) (ho : OE 33 base w v l) (hb : ∀ k, v.ownBlock = some k → k = b) (hbw : b ≠ w.heap.size) (hl : l.length ≤ 1000000)
    (hcl : ∀ (x : Ent.E) (q : Nat) (W : World), W.cell? ⟨q, 0, none⟩ = some (.func (.func gi) pre cap) → ExtQ (fun k => k = b) w W → Calls Try.prog 56 #[entV x, .pointer (some ⟨q, 0, none⟩)] W fun e W' => e = .returned (.bool (!p x)) ∧ Ext W W') :
    Calls Try.prog 37 #[v, .func (.func gi) pre cap] w fun e w' => ∃ v', e = .returned v' ∧ OE 33 base w' v' (l.filter p) ∧ (v'.ownBlock = none ∨ v'.ownBlock = some b) ∧ ExtQ (fun k => k = b) w w' := by
  have eg : ∀ args w, (callFunc 56 args).run Try.prog w = .ok (.enter 56 args) w := enters_of Try.func56 (by kernel_rfl) rfl
  have hx0 := (Ext.refl w).alloc (.cells #[.func (.func gi) pre cap] 65)
  have HX0 := Lib.hid hx0
  have HB0 := Lib.hid (Blk.new w 65 #[.func (.func gi) pre cap])
  have HD := Lib.hid (delEs_any (delP p) 56 #[.pointer (some ⟨w.heap.size, 0, none⟩)] eg (fun _ W => ExtQ (fun k => k = b) (w.alloc (.cells #[.func (.func gi) pre cap] 65)) W) (fun _ => False) b base
    (fun _ _ _ h k => h.trans k) (fun h => h) v l _ (ho.ext hx0) hb (fun _ h => h.elim) () (ExtQ.refl _ _) (by omega)
    (fun j hj W h => (hcl l[j] w.heap.size W ((HB0.out.extQ h (fun e => hbw e.symm)).cell 0) ((ExtQ.of hx0).trans h)).mono fun e W' ⟨h1, h2⟩ => ⟨h1, h.trans (ExtQ.of h2), ExtQ.of h2⟩))
  obtain ⟨A, c, rfl⟩ := ho.re.form
  clear ho hcl eg hx0
  go_enter Try.func37, Try.ntmps37
  go_wp2_with fail
  refine HD.out.mono ?_
  rintro e w2 ⟨v2, rfl, ho2, hv2, _, hx2⟩
  rw [keepP] at ho2
  go_wp2
  go_ret
  exact ⟨_, rfl, ho2, hv2, (ExtQ.of HX0.out).trans (hx2.mono fun k hk => hk.elim False.elim id)⟩

/-! ### At, Keep -/
set_option maxRecDepth 100000 in
set_option maxHeartbeats 2000000 in
theorem runAt_any (m : Int × Int) {w : World} {g : Nat} {lv : Value} {l : List Ent.E} {a b : Int} (h : RunI 59 w g lv l a b) :
    Calls Try.prog 24 #[.pointer (some ⟨g, 0, none⟩), mV m] w fun e w' => ∃ u, e = .returned u ∧ RE w' u ((Ent.srt l).filter fun x => decide (x.1 = m)) ∧ Ext w w' := by
  have HBD := Lib.hid h.bd
  have HSL := Lib.hid (Ent.srt_len l)
  obtain ⟨m1, m2⟩ := m
  have hx0 := (Ext.refl w).alloc (.cells #[.int .i64 m1, .int .i64 m2] 29)
  have HX0 := Lib.hid hx0
  have HI0 := Lib.hid (h.ext hx0)
  have c0 : (w.alloc (.cells #[.int .i64 m1, .int .i64 m2] 29)).cell? ⟨w.heap.size, 0, none⟩ = some (.int .i64 m1) := (Blk.new w 29 #[.int .i64 m1, .int .i64 m2]).cell 0
  have c1 : (w.alloc (.cells #[.int .i64 m1, .int .i64 m2] 29)).cell? ⟨w.heap.size, 1, none⟩ = some (.int .i64 m2) := (Blk.new w 29 #[.int .i64 m1, .int .i64 m2]).cell 1
  clear h hx0
  go_enter Try.func24, Try.ntmps24
  go_upto_region 1 with fail
  generalize w.heap.size = p at *
  generalize w.alloc (.cells #[.int .i64 m1, .int .i64 m2] 29) = w0 at *
  refine wp_region_tailY 4 [] [] Ext Ext (fun _ => True) (by kernel_rfl) (by kernel_rfl) (by kernel_rfl) (by kernel_rfl) (by kernel_rfl) (by kernel_rfl) (by kernel_rfl) (by rfl) (by rfl) (by kernel_rfl) (by kernel_rfl) (by kernel_rfl) (fun _ _ _ x y => x.trans y) Ext.refl (fun _ _ x => x) (Ext.refl _).drew (fun _ _ x _ => x) trivial ?_
  repeat (first | (refine wpY_move0 rfl rfl (by first | exact runs0 | exact runs1 rfl) Ext.refl rfl rfl rfl ?_; apply Exists.intro; refine ⟨?_, ?_⟩; · (go_simp; rfl)) | (refine wpY_move rfl rfl (by first | exact runs0 | exact runs1 rfl) Ext.refl rfl rfl rfl (fun _ _ _ h _ => h) ?_) | (refine wpY_val rfl rfl (by first | exact runs0 | exact runs1 rfl) Ext.refl rfl ?_; apply Exists.intro; refine ⟨?_, ?_⟩; · (intro a w' hR; intro h1; (first | (have e1 : _ = _ := h1) | skip); intro h2; (first | (have e2 : _ = _ := h2) | skip); go_simp; rfl)) | (refine wpY_val rfl rfl (by first | exact runs0 | exact runs1 rfl) Ext.refl rfl ?_; apply Exists.intro; refine ⟨?_, ?_⟩; · (intro a w' hR; intro h1; (first | (have e1 : _ = _ := h1) | skip); go_simp; rfl)) | (refine wpY_val rfl rfl (by first | exact runs0 | exact runs1 rfl) Ext.refl rfl ?_; apply Exists.intro; refine ⟨?_, ?_⟩; · (intro a w' hR; go_simp; rfl)) | (refine wpY_val rfl rfl (by first | exact runs0 | exact runs1 rfl) Ext.refl rfl ?_; apply Exists.intro; refine ⟨?_, ?_⟩; · (intro a w' hR; intro h1; (first | (have e1 : _ = _ := h1) | skip); intro h2; (first | (have e2 : _ = _ := h2) | skip); intro h3; (first | (have e3 : _ = _ := h3) | skip); go_simp; rfl)) | (refine wpY_skip rfl rfl (by first | exact .inl rfl | exact .inr rfl) ?_))
  refine wpY_call (fun v w2 => O0 w0.heap.size 33 4 (Ent.srt l).length (eV (Ent.srt l)) v w2) rfl rfl (by first | exact runs0 | exact runs1 rfl) rfl (by first | exact mono_eq | exact (fun _ _ _ h k => Rd.ext h k) | exact (fun _ _ _ h k => RB.ext h k) | exact (fun _ _ _ h k => OB.ext h k) | exact (fun _ _ _ h k => RB.extS h k) | exact (fun _ _ _ h k => Rd.ext h (GrownW.ext k)) | exact (fun _ _ _ h k => RP.ext h k) | exact (fun _ _ _ h k => OP.ext h k) | exact (fun _ _ _ h k => Rd.extV h k) | exact (fun _ _ _ h k => RB.extV h k) | exact (fun _ _ _ h k => E0.ext h k) | exact (fun _ _ _ h k => O0.ext h k) | exact (fun _ _ _ h k => RE.ext h k) | exact (fun _ _ _ h k => RE.extD h k) | exact (fun _ _ _ h _ => h) | exact (fun _ _ _ ⟨n, h1, h2⟩ k => ⟨n, h1, k.st _ _ h2⟩)) ?_ ?_
  · intro a w' hR h1 K hK
    have e1 : _ = _ := h1
    go_simp
    refine ((all_any (HI0.out.ext hR))).mono ?_
    rintro e w2 ⟨u, rfl, ho, he⟩
    exact hK _ _ he (OE.own (ho.low (show w0.heap.size ≤ w'.heap.size from hR.size)))
  refine wpY_val rfl rfl (by first | exact runs0 | exact runs1 rfl) Ext.refl rfl ?_; apply Exists.intro; refine ⟨?_, ?_⟩
  · intro a w' hR h1
    have e1 : _ = _ := h1
    have hl0 := hR.cell c0
    have hl1 := hR.cell c1
    go_simp
    rfl
  repeat (first | (refine wpY_move0 rfl rfl (by first | exact runs0 | exact runs1 rfl) Ext.refl rfl rfl rfl ?_; apply Exists.intro; refine ⟨?_, ?_⟩; · (go_simp; rfl)) | (refine wpY_move rfl rfl (by first | exact runs0 | exact runs1 rfl) Ext.refl rfl rfl rfl (fun _ _ _ h _ => h) ?_) | (refine wpY_val rfl rfl (by first | exact runs0 | exact runs1 rfl) Ext.refl rfl ?_; apply Exists.intro; refine ⟨?_, ?_⟩; · (intro a w' hR; intro h1; (first | (have e1 : _ = _ := h1) | skip); intro h2; (first | (have e2 : _ = _ := h2) | skip); go_simp; rfl)) | (refine wpY_val rfl rfl (by first | exact runs0 | exact runs1 rfl) Ext.refl rfl ?_; apply Exists.intro; refine ⟨?_, ?_⟩; · (intro a w' hR; intro h1; (first | (have e1 : _ = _ := h1) | skip); go_simp; rfl)) | (refine wpY_val rfl rfl (by first | exact runs0 | exact runs1 rfl) Ext.refl rfl ?_; apply Exists.intro; refine ⟨?_, ?_⟩; · (intro a w' hR; go_simp; rfl)) | (refine wpY_val rfl rfl (by first | exact runs0 | exact runs1 rfl) Ext.refl rfl ?_; apply Exists.intro; refine ⟨?_, ?_⟩; · (intro a w' hR; intro h1; (first | (have e1 : _ = _ := h1) | skip); intro h2; (first | (have e2 : _ = _ := h2) | skip); intro h3; (first | (have e3 : _ = _ := h3) | skip); go_simp; rfl)) | (refine wpY_skip rfl rfl (by first | exact .inl rfl | exact .inr rfl) ?_))
  refine wpY_done ?_
  intro w3 hx3 hS
  iterate 1 (rintro _ rfl)
  rintro v6 h6
  iterate 2 (rintro _ rfl)
  dsimp only [FinV]
  go_simp
  have hx3 : Ext w0 w3 := hx3
  have h6 : OE 33 w0.heap.size w3 v6 (Ent.srt l) := O0.oe h6
  simp only [thenTail, List.drop_succ_cons, List.drop_zero]
  obtain ⟨b9, hb9⟩ : ∃ b9, b9 = v6.ownBlock.getD (w3.heap.size + 1) := ⟨_, rfl⟩
  have hbk : ∀ k, v6.ownBlock = some k → k = b9 := fun k hk => by rw [hb9, hk]; rfl
  have hbl : w0.heap.size ≤ b9 ∧ b9 ≠ w3.heap.size := by
    have hs3 := hx3.size
    cases hq : v6.ownBlock with
    | none => rw [hb9, hq]; simp; omega
    | some k => rw [hb9, hq]; have := h6.lt hq; simp; omega
  have HON := Lib.hid (only_any (fun x => decide (x.1 = (m1, m2))) 38 #[mV (m1, m2)] #[] v6 (Ent.srt l) w0.heap.size b9 w3 h6 hbk hbl.2 (by rw [HSL.out]; have := HBD.out; omega) (fun x q W hc _ => only1_is (m1, m2) q x W hc))
  have HX3 := Lib.hid (HX0.out.trans hx3)
  have HBL := Lib.hid (show w.heap.size ≤ b9 by have := HX0.out.size; omega)
  clear h6 hx3 hS hb9 hbk hbl c0 c1
  go_wp2_with fail
  refine HON.out.mono ?_
  rintro e w4 ⟨v', rfl, ho', -, hx4⟩
  go_wp2
  go_ret
  exact ⟨_, rfl, ho'.re, HX3.out.andQ hx4 fun k hk => by have := HBL.out; omega⟩
set_option maxRecDepth 100000 in
set_option maxHeartbeats 2000000 in
theorem runKeep_any (u : Value) (f : List (Int × Int)) {w : World} {g : Nat} {lv : Value} {l : List Ent.E} {a b : Int} (h : RunI 59 w g lv l a b) (hu : ∀ W, ExtQ (RunQ g lv) w W → RP W u f) (hf : f.length ≤ 1000000) :
    Calls Try.prog 25 #[.pointer (some ⟨g, 0, none⟩), u] w fun e w' => e = .returned (.int .i64 ((l.length : Int) - ((Ent.bhd l f).length : Int))) ∧ ∃ lv', RunI 59 w' g lv' (Ent.bhd l f) a b ∧ NewQ w lv lv' ∧ ExtQ (RunQ g lv) w w' := by
  have HBD := Lib.hid h.bd
  have HI := Lib.hid h
  have hgl := h.blk.lt
  obtain ⟨A, c, rfl⟩ := h.own.re.form
  have hu0 := hu w (ExtQ.refl _ _)
  obtain ⟨B, d, rfl⟩ := hu0.form
  have HU := Lib.hid hu
  have hx0 := (Ext.refl w).alloc (.cells #[.slice B f.length d] 35)
  have HX0 := Lib.hid hx0
  have HB0 := Lib.hid (Blk.new w 35 #[.slice B f.length d])
  have HI0 := Lib.hid (h.ext hx0)
  have hbl : (Ent.bhd l f).length ≤ l.length := by have := Ent.bhd_len l f l.length; rwa [List.take_length] at this
  have HBB := Lib.hid hbl
  obtain ⟨b9, hb9⟩ : ∃ b9, b9 = (Value.slice A l.length c).ownBlock.getD (w.heap.size + 2) := ⟨_, rfl⟩
  have hbk : ∀ k, (Value.slice A l.length c).ownBlock = some k → k = b9 := fun k hk => by rw [hb9, hk]; rfl
  have hbq : (g < b9 ∧ b9 ≠ w.heap.size ∧ b9 ≠ w.heap.size + 1) ∧ (RunQ g (.slice A l.length c) b9 ∨ w.heap.size ≤ b9) := by
    cases hq : (Value.slice A l.length c).ownBlock with
    | none => rw [hb9, hq]; simp; omega
    | some k => rw [hb9, hq]; have := h.own.lt hq; exact ⟨⟨by simp; omega, by simp; omega, by simp; omega⟩, .inl (.inr hq)⟩
  have HBQ := Lib.hid hbq
  have HQM := Lib.hid (fun (W : World) (he : ExtQ (fun k => k = b9) (w.alloc (.cells #[.slice B f.length d] 35)) W) => show ExtQ (RunQ g (.slice A l.length c)) w W from (((ExtQ.of hx0).trans he).mono (Q' := fun k => k = b9) (fun k hk => hk)).mono' fun k hk q => by
    subst q
    rcases hbq.2 with q | q
    · exact q
    · omega)
  have HON := Lib.hid (only_any (fun x => Mom.covers f x.1) 39 #[] #[.pointer (some ⟨w.heap.size, 0, none⟩)] (.slice A l.length c) l (g + 1) b9 (w.alloc (.cells #[.slice B f.length d] 35)) (h.own.ext hx0) hbk (by simp; exact hbq.1.2.2) (by have := HBD.out; omega)
    (fun x q W hc he => only1_keep q w.heap.size (.slice B f.length d) f x W hc ((HB0.out.extQ he (fun e => hbq.1.2.1 e.symm)).cell 0) (HU.out W (HQM.out W he)) hf))
  have HNEW := Lib.hid (show ∀ v' : Value, (v'.ownBlock = none ∨ v'.ownBlock = some b9) → NewQ w (.slice A l.length c) v' from fun v' hv k hk => by
    rcases hv with q | q
    · rw [q] at hk; cases hk
    · rw [q] at hk
      injection hk with hk
      subst hk
      rcases hbq.2 with q | q
      · rcases q with q | q
        · omega
        · exact .inl q
      · exact .inr q)
  have hwr : IntKind.i64.wrap ((l.length : Int) - ((Ent.bhd l f).length : Int)) = (l.length : Int) - ((Ent.bhd l f).length : Int) := IntWalk.i64_in _ (by have := HBD.out; omega)
  have HM := Lib.hid (made_any HI0.out)
  generalize hbh : Ent.bhd l f = bh at *
  have HBH := Lib.hid hbh
  clear h hu hu0 hx0 hbl hb9 hbk hbq hgl hbh
  have hbd : l.length ≤ 4096 := HBD.out
  have hbb : bh.length ≤ l.length := HBB.out
  go_enter Try.func25, Try.ntmps25
  go_upto_region 1 with fail
  generalize w.heap.size = p at *
  generalize w.alloc (.cells #[.slice B f.length d] 35) = w0 at *
  obtain ⟨c0, c1, c2, f0, f2⟩ := HI0.out.cells
  go_wp2_with fail
  refine HM.out.mono ?_
  rintro e w' ⟨rfl, rfl⟩
  go_wp2_with fail
  refine HON.out.mono ?_
  rintro e w2 ⟨v2, rfl, ho2, hv2, hx2⟩
  rw [show (l.filter fun x => Mom.covers f x.1) = bh from HBH.out] at ho2
  have hq2 := HQM.out w2 hx2
  have hb2 := (HI0.out.blk).extQ hx2 (fun e => by have := HBQ.out.1.1; omega)
  obtain ⟨A2, c2', rfl⟩ := ho2.re.form
  have d0 : w2.cell? ⟨g, 0, none⟩ = some (.slice A l.length c) := hb2.cell 0
  have g0 : w2.frozen? ⟨g, 0, none⟩ = false := hb2.frozen 0
  have HI2 := Lib.hid (RunI.put hb2 ho2 HI0.out.lim (by have := HI0.out.len; omega) HI0.out.most)
  have HQ2 := Lib.hid (show ExtQ (RunQ g (.slice A l.length c)) w (w2.setCell ⟨g, 0, none⟩ (.slice A2 bh.length c2')) from ExtQ.setCell hq2 (p := ⟨g, 0, none⟩) (.inl rfl) _)
  have HV2 := Lib.hid hv2
  have e0 : (w2.setCell ⟨g, 0, none⟩ (.slice A2 bh.length c2')).cell? ⟨g, 0, none⟩ = some (.slice A2 bh.length c2') := HI2.out.cells.1
  clear ho2 hv2 hx2 hq2 hb2 c0 c1 c2 f0 f2
  go_wp2
  go_ret
  exact ⟨rfl, _, HI2.out, HNEW.out _ HV2.out, HQ2.out⟩
end Go.Proofs.Ytbokblklldphgaa
