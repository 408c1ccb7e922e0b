/-
  LaPEp, Tail3, packed: what the claim needs of them.
-/
import Derived.Test.YtpmgmiiidfconaaGreatDoorPz31
import Derived.Test.YtpmgmiiidfconaaGreatDoorPz27
import Derived.Test.YtpmgmiiidfconaaGreatDoorPz09
set_option linter.unusedVariables false
set_option linter.unusedSimpArgs false
namespace Go.Proofs.YtpmgmiiidfconaaGreatDoor
open Go.RowKit Go.Ox Go.Ox.Gr Go.Ox.Sc Go.Ox.La Go.Shelf
/-- the one epoch that is read: its row, the row of its bags -/
structure EpO (p B g : Nat) (w : World) (iv bv : Value) (bs : List Bag) : Prop where
  v : ∃ cap cur, iv = .slice (some ⟨g, 0, none⟩) 1 cap ∧ 1 ≤ cap ∧ cap ≤ maxLen ∧ cur[0]? = some bv ∧ Blk w g 70 cur
  lt : p < B ∧ B ≤ g
  b : OS (fun k => k < B ∨ k = g) 67 1 B BagQ w bv bs
theorem EpO.ext {p B g : Nat} {w w' : World} {iv bv : Value} {bs : List Bag} (h : EpO p B g w iv bv bs) (he : Ext w w') : EpO p B g w' iv bv bs := by
  obtain ⟨⟨cap, cur, h1, h2, h3, h4, h5⟩, hl, hb⟩ := h
  exact ⟨⟨cap, cur, h1, h2, h3, h4, h5.ext he⟩, hl, hb.ext he⟩
theorem EpO.ne {p B g : Nat} {w : World} {iv bv : Value} {bs : List Bag} (h : EpO p B g w iv bv bs) : ∀ j, bv.ownBlock = some j → ¬ (j < B ∨ j = g) := fun j hj e => by
  obtain ⟨⟨cap, cur, h1, h2, h3, h4, h5⟩, hl, hb⟩ := h
  rcases e with e | rfl
  · have := (hb.lt hj).1; omega
  · exact os_ne h5 hb (by decide) hj
theorem EpO.extQ {p B g : Nat} {w w' : World} {iv bv : Value} {bs : List Bag} {Q : Nat → Prop} (h : EpO p B g w iv bv bs) (he : ExtQ Q w w') (hg : ¬ Q g) (hq : ∀ j, Q j → j < B ∨ w.heap.size ≤ j) : EpO p B g w' iv bv bs := by
  have hne := h.ne
  obtain ⟨⟨cap, cur, h1, h2, h3, h4, h5⟩, hl, hb⟩ := h
  exact ⟨⟨cap, cur, h1, h2, h3, h4, h5.extQ he hg⟩, hl, hb.extQ he (fun j hj => (hq j hj).imp_left .inl) hne⟩
theorem EpO.insR {p B g : Nat} {w : World} {iv bv : Value} {bs : List Bag} (h : EpO p B g w iv bv bs) : InsR w iv [bs] := by
  obtain ⟨⟨cap, cur, rfl, h2, h3, h4, h5⟩, hl, hb⟩ := h
  refine InsR.of_rs ⟨[[bv]], ⟨some ⟨g, 0, none⟩, cap, rfl, rfl, h2, h3, (fun h => by cases h), fun ad ha j u hu => ?_⟩, rfl, fun i r x hr hx => ?_⟩
  · injection ha with ha
    subst ha
    rcases j with _ | j
    · simp at hu
      subst hu
      exact ⟨rfl, (h5.cell 0).trans h4⟩
    · simp at hu
  · rcases i with _ | i
    · simp at hr hx
      subst hr; subst hx
      exact ⟨rfl, bv, rfl, EpR.of_rs hb.rs⟩
    · simp at hr
theorem own_one {w : World} {B E : Nat} {v : Value} {u : Value} (h : w.ownsRow B E 1 v (0 + 1) ([] ++ [u])) : ∃ g cap cur, v = .slice (some ⟨g, 0, none⟩) 1 cap ∧ B ≤ g ∧ Blk w g E cur ∧ 1 ≤ cap ∧ cap ≤ maxLen ∧ cur.size = cap * 1 ∧ cur[0]? = some u := by
  obtain ⟨-, h⟩ := h
  rcases h with ⟨-, h⟩ | ⟨g, cap, cur, rfl, h1, h2, h3, h4, h5, h6⟩
  · cases h
  · refine ⟨g, cap, cur, rfl, h1, h2, h3, h4, h5, ?_⟩
    have h7 := congrArg (fun l => l[0]?) h6
    simp at h7
    rw [← h7]
attribute [local irreducible] RE OE wnB named1 Go.Ox.La.actL RP OP EpR InsR
set_option maxRecDepth 100000 in
set_option maxHeartbeats 8000000 in
theorem prest_epoch (w0 : World) (p q : Nat) (k0 k1 k2 k3 : Int) (nv : Value) (out : Int) (w : World) (h : WsR 60 w0 w q [epW9] false) (hq : q < w.heap.size)
    (hb : Blk w p 87 (paCs k0 k1 k2 k3 nv out (.slice none 0 0) (.slice none 0 0) 3)) (hpq : p < w.heap.size) :
    Calls Tryz.prog 69 #[.pointer (some ⟨p, 0, none⟩), .pointer (some ⟨q, 0, none⟩)] w fun e w' => e = .returned (.bool true) ∧ ∃ iv' g bv, Blk w' p 87 (paCs k0 k1 k2 k3 nv out iv' (.slice none 0 0) 4) ∧ EpO p w.heap.size g w' iv' bv [] ∧ ExtQ (fun k => k = p) w w' := by
  have HWS := Lib.hid h
  have HB := Lib.hid hb
  obtain ⟨A, c, hr0, hk⟩ := h.b
  have hr := RE.ext hr0 h.x
  have HR := Lib.hid hr
  have d0 := hk.cell 0
  have z8 := hb.cell 8
  have HEQ := Lib.hid (fun v b w hv hx => equal1_any v [epW9] epW9 b w hv (by simp) hx)
  have HPQ := Lib.hid hpq
  clear h hb hr hr0
  go_enter Tryz.func69, Tryz.ntmps69
  go_wp2_with fail
  have he0 : Ext w (w.alloc (.cells #[.string ⟨#[101, 112, 111, 99, 104]⟩] 9)) := (Ext.refl _).alloc _
  refine (HEQ.out _ w.heap.size _ (HR.out.ext he0) (by
    have h1 : Blk (w.alloc (.cells #[.string ⟨#[101, 112, 111, 99, 104]⟩] 9)) w.heap.size 9 #[.string ⟨#[101, 112, 111, 99, 104]⟩] := Blk.new _ _ _
    exact h1.cell 0)).mono ?_
  rintro e w1 ⟨rfl, he1⟩
  have hx := he0.trans he1
  have HX := Lib.hid hx
  rw [show decide True = true from rfl]
  have HB1 := Lib.hid (HB.out.ext hx)
  have z6 := HB1.out.cell 6
  have z81 := HB1.out.cell 8
  clear he0 he1 hx d0 z8 hk
  have HR2 := Lib.hid (Rd.lit (size := 1) w1 #[.slice none 0 0] 70 1 rfl (by unfold maxLen; omega))
  have HX2 := Lib.hid ((Ext.refl w1).alloc (.cells #[.slice none 0 0] 70))
  clear z6 z81
  have z6 := HB1.out.cell 6
  go_wp2_with (at_builtin; refine wpList_app rfl elemEp _ (.tmp 27) (.tmp 28) rfl w.heap.size (.slice none 0 0) 0 [] rfl (World.ownsRow_nil _ _ _ _) _ 1 _ rfl HR2.out (by intro u hu; simp at hu; subst hu; rfl) (by omega) (by unfold maxLen; omega) (Nat.le_trans HX.out.size HX2.out.size) ?_; intro v' w3 ha; obtain ⟨g, cap, cur, rfl, hg, hbg, hc1, hcm, hcs, hct⟩ := own_one ha.own; have HX3 := Lib.hid (HX2.out.trans (ExtQ.ext (Q := fun _ => False) (ExtQ.grown ha.grown (fun k hk => by simp [Value.ownBlock] at hk)) (fun _ h => h.elim))); clear ha; have f6 := (HB1.out.ext HX3.out).frozen 6; have y6 := (HB1.out.ext HX3.out).cell 6; have f8 := (HB1.out.ext HX3.out).frozen 8; have y8 := (HB1.out.ext HX3.out).cell 8)
  go_ret
  have hst : ExtQ (fun k => k = p) w3 ((w3.setCell ⟨p, 6, none⟩ (.slice (some ⟨g, 0, none⟩) 1 cap)).setCell ⟨p, 8, none⟩ (.int .i64 4)) := (exq_set1 w3 p 6 _).trans (exq_set1 _ p 8 _)
  have hgp : g ≠ p := by have := HPQ.out; omega
  refine ⟨rfl, _, g, _, by simpa using ((HB1.out.ext HX3.out).set_ 6 (.slice (some ⟨g, 0, none⟩) 1 cap)).set_ 8 (.int .i64 4), ⟨⟨cap, cur, rfl, hc1, hcm, hct, hbg.extQ hst hgp⟩, ⟨HPQ.out, hg⟩, OS.nil _ _ _ _ _ _⟩, (ExtQ.of (HX.out.trans HX3.out)).trans hst⟩
/-- a bag that was read: a literal that holds it -/
def BgL (N : Nat) (b : Bag) (v : Value) (w : World) : Prop := ∃ u, Rd w 1 v 1 [u] ∧ u.oneCell' = true ∧ OE 66 N w u b
theorem BgL.ext {N : Nat} {b : Bag} {v : Value} {w w' : World} (h : BgL N b v w) (he : Ext w w') : BgL N b v w' := by
  obtain ⟨u, h1, h2, h3⟩ := h
  exact ⟨u, h1.ext he, h2, h3.ext he⟩
theorem bad_kept {w0 w w' : World} {q : Nat} {T : TypeId} {row : Option Nat} (h : WsR T w0 w q [] false) (hg : w.grownBy w' row) (hq : row ≠ some q) : ∃ A c, Blk w' q T #[.slice A 0 c, .bool false] := by
  obtain ⟨A, c, hb⟩ := ws_blk h
  exact ⟨A, c, (hg.block q hb.lt fun e => hq e.symm).trans hb⟩
set_option maxRecDepth 100000 in
set_option maxHeartbeats 8000000 in
theorem prest_in (w0 : World) (p q B g : Nat) (xs : List W) (bs : List Bag) (iv bv : Value) (k0 k1 k2 k3 : Int) (nv : Value) (out : Int) (w : World) (h : WsR 60 w0 w q ([105, 110] :: xs) false) (hq : q < w.heap.size)
    (hb : Blk w p 87 (paCs k0 k1 k2 k3 nv out iv (.slice none 0 0) 4)) (he : EpO p B g w0 iv bv bs) (hB0 : B ≤ w0.heap.size) (hw : ∀ x ∈ xs, x.length ≤ 1000000) (hl : xs.length ≤ 100000) (hok : ∀ x ∈ xs, rcOk x = true) (hm : MaxL w0) (hbl : bs.length ≤ 1000) :
    Calls Tryz.prog 69 #[.pointer (some ⟨p, 0, none⟩), .pointer (some ⟨q, 0, none⟩)] w fun e w' => e = .returned (.bool true) ∧ ∃ bv', Blk w' p 87 (paCs k0 k1 k2 k3 nv out iv (.slice none 0 0) 4) ∧ EpO p B g w' iv bv' (bs ++ [xs.map rcF]) ∧ ExtQ (fun k => B ≤ k) w w' := by
  have HWS := Lib.hid h
  have HB := Lib.hid hb
  obtain ⟨A, c, hr0, hk⟩ := h.b
  have hr := RE.ext hr0 h.x
  have HR := Lib.hid hr
  obtain ⟨bb, oo, rfl, a0⟩ := reW1 hr (k := 0) (by simp)
  rw [Nat.add_zero, List.getElem_cons_zero] at a0
  have d0 := hk.cell 0
  have z8 := hb.cell 8
  have HEQ := Lib.hid (fun v b w hv hx => equal1_any v (([105, 110] : W) :: xs) epW9 b w hv (by rw [List.length_cons]; omega) hx)
  have HC1 := Lib.hid (fun w h => wnext_any w0 q ([105, 110] :: xs) false w h)
  have HC2 := Lib.hid (fun w h hq => wrecords_any w0 q xs w h hq hw (by omega) hok hm)
  have HQ := Lib.hid hq
  have HE := Lib.hid he
  have HBQ := Lib.hid (Nat.le_trans hB0 h.low)
  have HB0 := Lib.hid hB0
  have HBL := Lib.hid hbl
  have HX1 := Lib.hid (show ¬ (([105, 110] : W) :: xs) = [epW9] from fun h => by injection h with h _; exact absurd h (by decide))
  obtain ⟨Y, hY⟩ : ∃ Y, xs.map rcF = Y := ⟨_, rfl⟩
  rw [hY]
  have HY := Lib.hid hY
  clear h hb hr hr0 hY he hB0 hw hl hok hm hbl hq
  go_enter Tryz.func69, Tryz.ntmps69
  go_wp2_with fail
  have he0 : Ext w (w.alloc (.cells #[.string ⟨#[101, 112, 111, 99, 104]⟩] 9)) := (Ext.refl _).alloc _
  refine (HEQ.out _ w.heap.size _ (HR.out.ext he0) (by
    have h1 : Blk (w.alloc (.cells #[.string ⟨#[101, 112, 111, 99, 104]⟩] 9)) w.heap.size 9 #[.string ⟨#[101, 112, 111, 99, 104]⟩] := Blk.new _ _ _
    exact h1.cell 0)).mono ?_
  rintro e w1 ⟨rfl, he1⟩
  have hx := he0.trans he1
  have HX := Lib.hid hx
  rw [decide_eq_false HX1.out]
  have HB1 := Lib.hid (HB.out.ext hx)
  have HW1 := Lib.hid (HWS.out.e hx)
  have z81 := HB1.out.cell 8
  have d1 := hx.cell d0
  have a1 := hx.cell a0
  have b1 : ((⟨([105, 110] : W).toArray⟩ : ByteArray) == ⟨#[105, 110]⟩) = true := rfl
  have q1 : 0 < xs.length + 1 := by omega
  clear he0 he1 hx d0 z8 hk a0
  go_wp2_with fail
  refine (HC1.out _ HW1.out).mono ?_
  rintro e w2 ⟨rfl, hws2, hq2⟩
  have HW2 := Lib.hid (show WsR 60 w0 w2 q xs false from hws2)
  have HQ2 := Lib.hid ((ExtQ.of (Q := fun k => k = q) HX.out).trans hq2)
  have hne : p ≠ q := by
    obtain ⟨-, ⟨hl, -⟩, -⟩ := HE.out
    have := HBQ.out
    omega
  have HNE := Lib.hid hne
  have HGL := Lib.hid (show p < g ∧ g < w0.heap.size ∧ w0.heap.size ≤ q from by
    obtain ⟨⟨cap, cur, -, -, -, -, hgb⟩, hl, -⟩ := HE.out
    exact ⟨by omega, hgb.lt, HWS.out.low⟩)
  have HBV := Lib.hid (show ∀ j, bv.ownBlock = some j → j ≠ p ∧ j ≠ g ∧ j < w0.heap.size ∧ B ≤ j from fun j hj => by
    have h1 := HE.out.ne j hj
    have h2 := HE.out.b.lt hj
    have h3 := HE.out.lt
    exact ⟨fun e => by omega, fun e => h1 (.inr e), h2.2, h2.1⟩)
  have HB2 := Lib.hid (HB1.out.extQ hq2 hne)
  have HSZ2 := Lib.hid (show w0.heap.size ≤ w2.heap.size ∧ q < w2.heap.size from ⟨HW2.out.x.size, wsr_lt HW2.out⟩)
  obtain ⟨Ab, cb, rfl⟩ := HE.out.b.form
  obtain ⟨cap, cur, hiv, -, -, -, -⟩ := HE.out.v
  subst hiv
  clear hws2 hq2 hne d1 a1 b1 z81
  have z6 := HB2.out.cell 6
  go_upto_region 8 with fail
  clear z6
  have HPB := Lib.hid (show ∀ w', ExtQ (fun k => k = q ∨ (Value.slice Ab bs.length cb).ownBlock = some k) w2 w' → Blk w' p 87 (paCs k0 k1 k2 k3 nv out (.slice (some ⟨g, 0, none⟩) 1 cap) (.slice none 0 0) 4) from fun w' hR => HB2.out.extQ hR (fun e => e.elim HNE.out (fun e => (HBV.out _ e).1 rfl)))
  have HGC := Lib.hid (show ∀ w', ExtQ (fun k => k = q ∨ (Value.slice Ab bs.length cb).ownBlock = some k) w2 w' → ∃ cap' cur, (Value.slice (some ⟨g, 0, none⟩) 1 cap) = .slice (some ⟨g, 0, none⟩) 1 cap' ∧ 1 ≤ cap' ∧ cap' ≤ maxLen ∧ cur[0]? = some (Value.slice Ab bs.length cb) ∧ Blk w' g 70 cur from fun w' hR => by
    obtain ⟨⟨cap', cur, h1, h2, h3, h4, h5⟩, -, -⟩ := HE.out
    exact ⟨cap', cur, h1, h2, h3, h4, (h5.ext HW2.out.x).extQ hR (fun e => e.elim (fun e => by have := HGL.out; omega) (fun e => (HBV.out _ e).2.1 rfl))⟩)
  have HGB := Lib.hid (show ∀ w', ExtQ (fun k => k = q ∨ (Value.slice Ab bs.length cb).ownBlock = some k) w2 w' → w'.cell? ⟨g, 0, none⟩ = some (.slice Ab bs.length cb) from fun w' hR => by
    obtain ⟨cap', cur, h1, h2, h3, h4, h5⟩ := HGC.out w' hR
    exact (h5.cell 0).trans h4)
  have HST := Lib.hid (show ∀ (w' : World) (u : Value), w2.heap.size ≤ w'.heap.size → OE 66 w2.heap.size w' u Y → ∀ V, ExtQ (MayK (fun k => k < B ∨ k = g) (.slice Ab bs.length cb) w') w' V → BagQ V [u] Y from fun w' u hs ho V hV =>
    ⟨u, rfl, (oe_extQ' ho hV (fun k hk e => by
      have h1 := ho.lt hk
      have h2 := HGL.out
      have h3 := HSZ2.out
      have h4 := HB0.out
      rcases e with (e | e) | e | e
      · omega
      · omega
      · have := HBV.out _ e; omega
      · omega)).re.rp⟩)
  refine wp_region_tailZ 18 [75, 77] [76] Ext (ExtQ (fun k => k = q ∨ (Value.slice Ab bs.length cb).ownBlock = some k)) (fun w' => WsR 60 w0 w' q xs false) (by kernel_rfl) (by kernel_rfl) (by kernel_rfl) (by kernel_rfl) (by kernel_rfl) (by kernel_rfl) (by kernel_rfl) (by rfl) (by rfl) (by kernel_rfl) (by kernel_rfl) (by kernel_rfl) (fun _ _ _ x y => x.trans y) (ExtQ.refl _) (fun _ _ x => ExtQ.of x) Ext.refl (Ext.refl _).drew (fun _ _ x y => x.e y) (HW2.out) ?_
  repeat (first | (refine wpZ_move0 rfl rfl (fun _ => (by first | exact runs0 | exact runs1 rfl)) Ext.refl rfl rfl (fun _ => rfl) ?_; apply Exists.intro; refine ⟨?_, ?_⟩; · (go_simp; rfl)) | (refine wpZ_val rfl rfl (fun _ => (by first | exact runs0 | exact runs1 rfl)) Ext.refl rfl ?_; apply Exists.intro; refine ⟨?_, ?_⟩; · (intro c a w' hR; intro h1; (first | (have e1 : _ = _ := h1) | skip); intro h2; (first | (have e2 : _ = _ := h2) | skip); go_simp; rfl)) | (refine wpZ_val rfl rfl (fun _ => (by first | exact runs0 | exact runs1 rfl)) Ext.refl rfl ?_; apply Exists.intro; refine ⟨?_, ?_⟩; · (intro c a w' hR; intro h1; (first | (have e1 : _ = _ := h1) | skip); go_simp; rfl)) | (refine wpZ_val rfl rfl (fun _ => (by first | exact runs0 | exact runs1 rfl)) Ext.refl rfl ?_; apply Exists.intro; refine ⟨?_, ?_⟩; · (intro c a w' hR; go_simp; rfl)) | (refine wpZ_val rfl rfl (fun _ => (by first | exact runs0 | exact runs1 rfl)) Ext.refl rfl ?_; apply Exists.intro; refine ⟨?_, ?_⟩; · (intro c a w' hR; intro h1; (first | (have e1 : _ = _ := h1) | skip); intro h2; (first | (have e2 : _ = _ := h2) | skip); intro h3; (first | (have e3 : _ = _ := h3) | skip); go_simp; rfl)))
  refine wpZ_val rfl rfl (fun _ => (by first | exact runs0 | exact runs1 rfl)) Ext.refl rfl ?_; apply Exists.intro; refine ⟨?_, ?_⟩
  · intro c a w' hR h1
    have e1 : _ = _ := h1
    have hl0 := (HPB.out _ hR).cell 6
    go_simp
    rfl
  repeat (first | (refine wpZ_move0 rfl rfl (fun _ => (by first | exact runs0 | exact runs1 rfl)) Ext.refl rfl rfl (fun _ => rfl) ?_; apply Exists.intro; refine ⟨?_, ?_⟩; · (go_simp; rfl)) | (refine wpZ_val rfl rfl (fun _ => (by first | exact runs0 | exact runs1 rfl)) Ext.refl rfl ?_; apply Exists.intro; refine ⟨?_, ?_⟩; · (intro c a w' hR; intro h1; (first | (have e1 : _ = _ := h1) | skip); intro h2; (first | (have e2 : _ = _ := h2) | skip); go_simp; rfl)) | (refine wpZ_val rfl rfl (fun _ => (by first | exact runs0 | exact runs1 rfl)) Ext.refl rfl ?_; apply Exists.intro; refine ⟨?_, ?_⟩; · (intro c a w' hR; intro h1; (first | (have e1 : _ = _ := h1) | skip); go_simp; rfl)) | (refine wpZ_val rfl rfl (fun _ => (by first | exact runs0 | exact runs1 rfl)) Ext.refl rfl ?_; apply Exists.intro; refine ⟨?_, ?_⟩; · (intro c a w' hR; go_simp; rfl)) | (refine wpZ_val rfl rfl (fun _ => (by first | exact runs0 | exact runs1 rfl)) Ext.refl rfl ?_; apply Exists.intro; refine ⟨?_, ?_⟩; · (intro c a w' hR; intro h1; (first | (have e1 : _ = _ := h1) | skip); intro h2; (first | (have e2 : _ = _ := h2) | skip); intro h3; (first | (have e3 : _ = _ := h3) | skip); go_simp; rfl)))
  refine wpZ_val rfl rfl (fun _ => (by first | exact runs0 | exact runs1 rfl)) Ext.refl rfl ?_; apply Exists.intro; refine ⟨?_, ?_⟩
  · intro c a w' hR h1
    have e1 : _ = _ := h1
    have hl0 := (HPB.out _ hR).cell 6
    go_simp
    rfl
  repeat (first | (refine wpZ_move0 rfl rfl (fun _ => (by first | exact runs0 | exact runs1 rfl)) Ext.refl rfl rfl (fun _ => rfl) ?_; apply Exists.intro; refine ⟨?_, ?_⟩; · (go_simp; rfl)) | (refine wpZ_val rfl rfl (fun _ => (by first | exact runs0 | exact runs1 rfl)) Ext.refl rfl ?_; apply Exists.intro; refine ⟨?_, ?_⟩; · (intro c a w' hR; intro h1; (first | (have e1 : _ = _ := h1) | skip); intro h2; (first | (have e2 : _ = _ := h2) | skip); go_simp; rfl)) | (refine wpZ_val rfl rfl (fun _ => (by first | exact runs0 | exact runs1 rfl)) Ext.refl rfl ?_; apply Exists.intro; refine ⟨?_, ?_⟩; · (intro c a w' hR; intro h1; (first | (have e1 : _ = _ := h1) | skip); go_simp; rfl)) | (refine wpZ_val rfl rfl (fun _ => (by first | exact runs0 | exact runs1 rfl)) Ext.refl rfl ?_; apply Exists.intro; refine ⟨?_, ?_⟩; · (intro c a w' hR; go_simp; rfl)) | (refine wpZ_val rfl rfl (fun _ => (by first | exact runs0 | exact runs1 rfl)) Ext.refl rfl ?_; apply Exists.intro; refine ⟨?_, ?_⟩; · (intro c a w' hR; intro h1; (first | (have e1 : _ = _ := h1) | skip); intro h2; (first | (have e2 : _ = _ := h2) | skip); intro h3; (first | (have e3 : _ = _ := h3) | skip); go_simp; rfl)))
  refine wpZ_val rfl rfl (fun _ => (by first | exact runs0 | exact runs1 rfl)) Ext.refl rfl ?_; apply Exists.intro; refine ⟨?_, ?_⟩
  · intro c a w' hR h1
    have e1 : _ = _ := h1
    have hl0 := HGB.out _ hR
    go_simp
    rfl
  repeat (first | (refine wpZ_move0 rfl rfl (fun _ => (by first | exact runs0 | exact runs1 rfl)) Ext.refl rfl rfl (fun _ => rfl) ?_; apply Exists.intro; refine ⟨?_, ?_⟩; · (go_simp; rfl)) | (refine wpZ_val rfl rfl (fun _ => (by first | exact runs0 | exact runs1 rfl)) Ext.refl rfl ?_; apply Exists.intro; refine ⟨?_, ?_⟩; · (intro c a w' hR; intro h1; (first | (have e1 : _ = _ := h1) | skip); intro h2; (first | (have e2 : _ = _ := h2) | skip); go_simp; rfl)) | (refine wpZ_val rfl rfl (fun _ => (by first | exact runs0 | exact runs1 rfl)) Ext.refl rfl ?_; apply Exists.intro; refine ⟨?_, ?_⟩; · (intro c a w' hR; intro h1; (first | (have e1 : _ = _ := h1) | skip); go_simp; rfl)) | (refine wpZ_val rfl rfl (fun _ => (by first | exact runs0 | exact runs1 rfl)) Ext.refl rfl ?_; apply Exists.intro; refine ⟨?_, ?_⟩; · (intro c a w' hR; go_simp; rfl)) | (refine wpZ_val rfl rfl (fun _ => (by first | exact runs0 | exact runs1 rfl)) Ext.refl rfl ?_; apply Exists.intro; refine ⟨?_, ?_⟩; · (intro c a w' hR; intro h1; (first | (have e1 : _ = _ := h1) | skip); intro h2; (first | (have e2 : _ = _ := h2) | skip); intro h3; (first | (have e3 : _ = _ := h3) | skip); go_simp; rfl)))
  refine wpZ_eff (fun c v w => 1 ≤ c ∧ (c ≤ 1 → OE 66 w2.heap.size w v Y)) (fun w' => WsR 60 w0 w' q [] false) rfl (by first | exact runs0 | exact runs1 rfl) rfl (keptC_at fun _ _ _ h k => OE.ext h k) (fun _ _ x y => x.e y) ?_ ?_
  · intro a w' hR hS h1 K hK
    have e1 : _ = _ := h1
    go_simp
    refine (HC2.out w' hS (Nat.lt_of_lt_of_le HSZ2.out.2 hR.size)).mono ?_
    rintro e w3 ⟨u, rfl, ho3, hws3, hx3⟩
    rw [HY.out] at ho3
    exact hK _ _ (hx3.mono fun i hi => .inl hi) hws3 ⟨Nat.le_refl _, fun _ => OE.low ho3 hR.size⟩
  refine wpZ_callA (fun c v w => 1 ≤ c ∧ (c ≤ 1 → BgL w2.heap.size Y v w)) rfl rfl (by first | exact runs0 | exact runs1 rfl) rfl (keptC_at fun _ _ _ h k => BgL.ext h k) ?_ ?_
  · intro a w' hR hS h1 K hK
    obtain ⟨y8, ey8, fy8⟩ : ∃ x, a.tmps.getD 75 undef = x ∧ (fun v w => 1 ≤ 0 + 1 ∧ (0 + 1 ≤ 1 → OE 66 w2.heap.size w v Y)) x w' := ⟨_, rfl, h1⟩
    have q1 : a.tmps[75]?.getD undef = y8 := by rw [← Array.getD_eq_getD_getElem?]; exact ey8
    have ho9 := fy8.2 (Nat.le_refl _)
    obtain ⟨A9, c9, hv9⟩ := ho9.re.form
    generalize y8 = y8' at *
    subst hv9
    go_simp
    exact hK _ _ ((Ext.refl _).alloc _) ⟨Nat.le_refl _, fun _ => ⟨_, Rd.lit (size := 1) w' #[_] _ 1 rfl (by unfold maxLen; omega), rfl, ho9.ext ((Ext.refl _).alloc _)⟩⟩
  refine wpZ_eff (fun c v w => 2 ≤ c ∧ (c ≤ 2 → OS (fun k => k < B ∨ k = g) 67 1 B BagQ w v (bs ++ [Y]))) (fun w' => ∃ A c, Blk w' q 60 #[.slice A 0 c, .bool false]) rfl (by first | exact runs0 | exact runs1 rfl) rfl (keptC_at fun _ _ _ h k => OS.ext h k) (fun _ _ ⟨A, c, x⟩ y => ⟨A, c, x.ext y⟩) ?_ ?_
  · intro a w' hR hS h1 h2 K hK
    have e1 : _ = _ := h1
    obtain ⟨y9, ey9, fy9⟩ : ∃ x, a.tmps.getD 76 undef = x ∧ (fun v w => 1 ≤ 0 + 1 ∧ (0 + 1 ≤ 1 → BgL w2.heap.size Y v w)) x w' := ⟨_, rfl, h2⟩
    obtain ⟨u9, hr9, hk9, ho9⟩ := fy9.2 (Nat.le_refl _)
    have e1 : _ = _ := h1
    refine wp_appS elemBag w' (.tmp 73) (.tmp 76) rfl B _ _ bs e1 (HE.out.b.ext hS.x) ey9 [u9] Y hr9 (by intro u hu; simp at hu; subst hu; exact hk9) rfl (HST.out w' u9 hR.size ho9) (by have := HBL.out; omega) (by have := HBL.out; unfold maxLen; omega) (by have h1 := HB0.out; have h2 := hS.x.size; omega) ?_
    intro v' w3 ho3 hg3
    exact hK _ _ (ExtQ.grown hg3 (fun i hi => .inr hi)) (bad_kept hS hg3 (fun e => by have h1 := HBV.out _ e; have h2 := HGL.out; omega)) ⟨Nat.le_refl _, fun _ => ho3⟩
  refine wpZ_done ?_
  intro w6 hx6 hS6
  iterate 15 (rintro _ rfl)
  iterate 1 (intro _ hz; clear hz)
  rintro v76 h9
  rintro v77 h10
  dsimp only [FinV]
  go_simp
  have ho6 := h10.2 (Nat.le_refl _)
  have hx6 : ExtQ (fun k => k = q ∨ (Value.slice Ab bs.length cb).ownBlock = some k) w2 w6 := hx6
  obtain ⟨A7, c7, hb7⟩ := hS6
  obtain ⟨A6, c6, hv6⟩ := ho6.form
  rw [List.length_append, List.length_singleton] at hv6
  subst hv6
  have HO6 := Lib.hid ho6
  have HB6 := Lib.hid (HPB.out _ hx6)
  have HG6 := Lib.hid (HGC.out _ hx6)
  have HQ6 := Lib.hid hb7
  have HX6 := Lib.hid (show ExtQ (fun k => B ≤ k) w w6 from (HQ2.out.mono fun k (hk : k = q) => by have h1 := HGL.out; have h2 := HB0.out; show B ≤ k; omega).trans (hx6.mono fun k hk => hk.elim (fun e => by have h1 := HGL.out; have h2 := HB0.out; show B ≤ k; omega) (fun e => (HBV.out _ e).2.2.2)))
  clear h9 h10 ho6 hx6 hb7
  obtain ⟨cap', cur, hcv, hc1, hcm, hc0, hgb⟩ := HG6.out
  injection hcv with _ _ hcv
  subst hcv
  have f0 : w6.frozen? ⟨g, 0, none⟩ = false := hgb.frozen 0
  have g0 : w6.cell? ⟨g, 0, none⟩ = some (.slice Ab bs.length cb) := (hgb.cell 0).trans hc0
  have d1 : w6.cell? ⟨q, 1, none⟩ = some (.bool false) := HQ6.out.cell 1
  have hqg : ¬ q = g := by have h1 := HGL.out; omega
  have hgq : ¬ g = q := fun e => hqg e.symm
  have HGN := Lib.hid (hgb.set_ 0 (.slice A6 (bs.length + 1) c6))
  have HC0 := Lib.hid (show (cur.setIfInBounds 0 (.slice A6 (bs.length + 1) c6))[0]? = some (.slice A6 (bs.length + 1) c6) from by
    have h0 : 0 < cur.size := (Array.getElem?_eq_some_iff.1 hc0).1
    simp [Array.getElem?_setIfInBounds, h0])
  clear hgb hc0
  simp only [thenTail, List.drop_succ_cons, List.drop_zero]
  go_wp2
  go_ret
  have hst : ExtQ (fun k => k = g) w6 (w6.setCell ⟨g, 0, none⟩ (.slice A6 (bs.length + 1) c6)) := exq_set1 w6 g 0 _
  refine ⟨rfl, HB6.out.extQ hst (fun e => by have h1 := HGL.out; omega), ⟨_, ⟨cap, _, rfl, hc1, hcm, HC0.out, HGN.out⟩, HE.out.lt, HO6.out.extQ hst (fun j hj => .inl (.inr hj)) (fun j hj e => ?_)⟩, HX6.out.trans (hst.mono fun k hk => by have h1 := HE.out.lt; have hk : k = g := hk; show B ≤ k; omega)⟩
  rcases e with e | rfl
  · have h1 := HE.out.lt; have h2 := HO6.out.lt hj; omega
  · obtain ⟨_, _, _, _, _, _, hgb⟩ := HG6.out
    exact os_ne hgb HO6.out (by decide) hj
end Go.Proofs.YtpmgmiiidfconaaGreatDoor
set_option linter.unusedVariables false
set_option linter.unusedSimpArgs false
namespace Go.Ox
open Go.RowKit
section
variable {P : Program} {ops : Array Oper} {Q : Exit → Act → World → Prop}
/-- behind the head, the rest in any order -/
def thenAny (P : Program) (ops : Array Oper) (n : Nat) (Q : Exit → Act → World → Prop) : Exit → Act → World → Prop
  | .normal, a, w => wpAny P .any ops Q (ops.size - n) (Array.replicate n true ++ Array.replicate (ops.size - n) false) a w
  | e, a, w => Q e a w
theorem thenAny_outs {n : Nat} (h : LetsOut (thenAny P ops n Q)) : LetsOut Q := h
theorem wp_exitsA {o : Oper} {a : Act} {w : World} {K : Act → World → Prop} {n : Nat} (h : o.wp P a w K (thenAny P ops n Q)) : o.wp P a w K Q := by
  unfold Oper.wp at *
  generalize (execOp a.eval o).run P w = r at *
  cases r with
  | ok m w' =>
    cases m <;> simp only [Oper.upon] at h ⊢ <;>
      first
        | exact h
        | exact Calls.mono h (fun e w'' he => by cases e <;> exact he)
  | halt x w' => cases x <;> simp only [Oper.upon] at h ⊢ <;> exact h
def waitsAll (ops : Array Oper) (n : Nat) : Bool := (List.range ops.size).all fun t => decide (t < n) || (List.range n).all fun i => Region.waitsFor .any ops t i
theorem waits_at {n t i : Nat} (h : waitsAll ops n = true) (ht : n ≤ t) (hts : t < ops.size) (hi : i < n) : Region.waitsFor .any ops t i = true := by
  have h1 := List.all_eq_true.1 h t (List.mem_range.2 hts)
  simp only [Bool.or_eq_true, decide_eq_true_eq] at h1
  rcases h1 with h1 | h1
  · omega
  · exact List.all_eq_true.1 h1 i (List.mem_range.2 hi)
theorem wpAny_tailA {n : Nat} (hn : n < ops.size) (hw : waitsAll ops n = true) (hg : guardsIn ops n = true) (hb : edgesBack ops n = true) :
    ∀ (f : Nat) (listedH listed : Array Bool) (a : Act) (w : World), HeadInv .any ops n listed → listedH.size = n → (∀ j, j < n → listed.getD j true = listedH.getD j true) → unlisted listedH = f →
      wpAny P .any (ops.extract 0 n) (thenAny P ops n Q) f listedH a w → wpAny P .any ops Q (f + (ops.size - n)) listed a w := by
  intro f
  induction f with
  | zero =>
    intro listedH listed a w inv hsz hag hu h
    have hl : listed = Array.replicate n true ++ Array.replicate (ops.size - n) false := by
      apply Array.ext
      · rw [inv.size]; simp; omega
      · intro j h1 h2
        rcases Nat.lt_or_ge j n with hj | hj
        · have h3 := unlisted_zero hu (j := j) (by omega)
          have h4 := hag j hj
          rw [getD_true_iff (by omega : j < listedH.size), h3] at h4
          have h5 : listed[j] = true := by simpa [Array.getD, h1] using h4
          rw [h5, Array.getElem_append_left (by simpa using hj)]
          simp
        · have h4 := inv.tail j hj (by rw [← inv.size]; exact h1)
          have h5 : listed[j] = false := by simpa [Array.getD, h1] using h4
          rw [h5, Array.getElem_append_right (by simpa using hj)]
          simp
    rw [Nat.zero_add, hl]
    exact h.2
  | succ f ih =>
    intro listedH listed a w inv hsz hag hu h
    obtain ⟨j0, hj0, hun⟩ := unlisted_pos hu
    have hj0n : j0 < n := by omega
    have hls := inv.size
    rw [show f + 1 + (ops.size - n) = (f + (ops.size - n)) + 1 by omega]
    refine ⟨fun h0 => ?_, fun i hi => ?_⟩
    · exfalso
      have h1 := never_stuck hn hb hls h0 j0 hj0n
      rw [← hag j0 hj0n, getD_true_iff (by omega), h1] at hun
      cases hun
    · have hin : i < n := by
        rcases Nat.lt_or_ge i n with h1 | h1
        · exact h1
        · obtain ⟨_, oi, hoi, _⟩ := mem_ready.1 hi
          exact (waits_open (waits_at hw h1 (Array.getElem?_eq_some_iff.1 hoi).1 hj0n) (by rw [hag j0 hj0n]; exact hun) (ready_open hi)).elim
      have hiH := ready_step hn hb hls hsz hag i hin hi
      obtain ⟨hiu, o, ho, _⟩ := mem_ready.1 hi
      have hk := h.2 i hiH
      unfold wpOp at hk ⊢
      rw [head_at hn hin] at hk
      simp only [ho] at hk ⊢
      rw [wanted_head hn hg hin ho] at hk
      have hstep : ∀ (a' : Act) (w' : World), wpAny P .any (ops.extract 0 n) (thenAny P ops n Q) f (listedH.setIfInBounds i true) a' w' → wpAny P .any ops Q (f + (ops.size - n)) (listed.setIfInBounds i true) a' w' := fun a' w' h' => by
        refine ih _ _ a' w' (inv.set hi hin) (by simpa using hsz) (agree_set (by omega) hsz hin hag) ?_ h'
        have := unlisted_set (listed := listedH) (j := i) (by rw [← hag i hin]; exact hiu)
        omega
      split
      · rename_i hw
        rw [if_pos hw] at hk
        exact hk.imp (fun h1 => Oper.wp_mono hstep (wp_exitsA h1)) (fun h1 => ⟨h1.1, thenAny_outs h1.2⟩)
      · rename_i hw
        rw [if_neg hw] at hk
        exact hstep _ _ hk
theorem wp_region_anyZ {id : Nat} {a : Act} {w : World} {ps : List Planned} (k : Nat) (eff anc : List Tmp) (R0 R : World → World → Prop) (S : World → Prop) (hm : P.follows .mixedOrders = true)
    (hn0 : decide (k < ops.size) = true) (hs : waitsAll ops k = true) (hg : guardsIn ops k = true) (hb : edgesBack ops k = true)
    (hplan : planOf (ops.extract 0 k) (ops.extract 0 k).toList = some ps) {n : Nat} (hn : a.tmps.size = n) (hok : planOk n ps = true) (hch : chained (masks ps []) (effIx eff ps 0) = true) (han : anchored (masks ps []) (effIx eff ps 0) (ancIx eff anc ps 0 0) = true)
    (htr : ∀ a b c, R a b → R b c → R a c) (hrf : ∀ a, R a a) (h0R : ∀ a b, R0 a b → R a b) (h0rf : ∀ a, R0 a a) (hdr : R0 w w.drew) (hS0 : ∀ w w', S w → R0 w w' → S w') (hS : S w)
    (h : wpZ P (thenAny P ops k Q) R0 R a w eff anc 0 S ps []) : (Code.region id ops true).wp P Q a w := by
  refine wp_region_any hm ?_
  have hk : k < ops.size := of_decide_eq_true hn0
  have h1 := wpAny_region_effC eff anc R0 R _ S hplan hn hok hch han htr hrf h0R h0rf hdr hS0 hS (wpZ_open h)
  rw [head_size hk] at h1
  have inv0 : HeadInv .any ops k (Array.replicate ops.size false) :=
    ⟨by simp, fun j oj _ hl => (by rw [getD_replicate_false] at hl; cases hl), fun t _ ht => getD_in (by simpa using ht) (getD_replicate_false _ _)⟩
  have h2 := wpAny_tailA hk hs hg hb k (Array.replicate k false) (Array.replicate ops.size false) a w.drew inv0 (by simp) (fun j hj => by
    rw [getD_in (by simp; omega) (getD_replicate_false _ _), getD_in (by simpa using hj) (getD_replicate_false _ _)]) (by simp [unlisted, List.countP_replicate]) h1
  rw [show k + (ops.size - k) = ops.size by omega] at h2
  exact h2
end
end Go.Ox
