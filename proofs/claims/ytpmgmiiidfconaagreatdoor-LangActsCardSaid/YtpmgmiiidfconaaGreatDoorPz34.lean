/-
  LaPInner, packed: what the claim needs of them.
-/
import Derived.Test.YtpmgmiiidfconaaGreatDoorPz33
set_option linter.unusedVariables false
set_option linter.unusedSimpArgs false
namespace Go.Proofs.YtpmgmiiidfconaaGreatDoor
open Go.RowKit Go.Ox Go.Ox.Gr Go.Ox.Sc Go.Ox.La Go.Shelf
def enW9 : W := [101, 110, 100]
attribute [local irreducible] RE OE wnB named1 Go.Ox.La.actL RP OP EpR InsR nameL
set_option maxRecDepth 100000 in
set_option maxHeartbeats 8000000 in
theorem pinner_end (w0 : World) (p q : Nat) (k0 k1 k2 k3 : Int) (nv iv av : Value) (out : Int) (w : World) (h : WsR 60 w0 w q [enW9] false)
    (hb : Blk w p 87 (paCs k0 k1 k2 k3 nv out iv av 2)) :
    Calls Tryz.prog 66 #[.pointer (some ⟨p, 0, none⟩), .pointer (some ⟨q, 0, none⟩)] w fun e w' => e = .returned (.bool true) ∧ Blk w' p 87 (paCs k0 k1 k2 k3 nv out iv av 1) ∧ ExtQ (fun k => k = p) w w' := by
  have HWS := Lib.hid h
  have HB := Lib.hid hb
  obtain ⟨A, c, hr0, hk⟩ := h.b
  have hr := RE.ext hr0 h.x
  have HR := Lib.hid hr
  have d0 := hk.cell 0
  have HEQ := Lib.hid (fun v b w hv hx => equal1_any v [enW9] enW9 b w hv (by simp) hx)
  clear h hb hr hr0 hk
  go_enter Tryz.func66, Tryz.ntmps66
  go_wp2_with fail
  have he0 : Ext w (w.alloc (.cells #[.string ⟨#[101, 110, 100]⟩] 9)) := (Ext.refl _).alloc _
  refine (HEQ.out _ w.heap.size _ (HR.out.ext he0) (by
    have h1 : Blk (w.alloc (.cells #[.string ⟨#[101, 110, 100]⟩] 9)) w.heap.size 9 #[.string ⟨#[101, 110, 100]⟩] := Blk.new _ _ _
    exact h1.cell 0)).mono ?_
  rintro e w1 ⟨rfl, he1⟩
  have hx := he0.trans he1
  have HX := Lib.hid hx
  rw [show decide True = true from rfl]
  have HB1 := Lib.hid (HB.out.ext hx)
  have f8 := HB1.out.frozen 8
  have z8 := HB1.out.cell 8
  clear he0 he1 hx d0
  go_wp2
  go_ret
  exact ⟨rfl, by simpa using HB1.out.set_ 8 (.int .i64 1), (ExtQ.of HX.out).trans (exq_set1 w1 p 8 _)⟩
theorem has_last {cur : Array Value} {o : Nat} {a0 a1 a2 a3 a4 a5 v : Value} (h : Has cur o [a0, a1, a2, a3, a4, a5]) (hs : o + 6 ≤ cur.size) : Has (cur.setIfInBounds (o + 5) v) o [a0, a1, a2, a3, a4, v] := by
  intro j u hj
  rcases j with _ | _ | _ | _ | _ | _ | j
  · rw [Array.getElem?_setIfInBounds_ne (by omega)]; exact h 0 u hj
  · rw [Array.getElem?_setIfInBounds_ne (by omega)]; exact h 1 u hj
  · rw [Array.getElem?_setIfInBounds_ne (by omega)]; exact h 2 u hj
  · rw [Array.getElem?_setIfInBounds_ne (by omega)]; exact h 3 u hj
  · rw [Array.getElem?_setIfInBounds_ne (by omega)]; exact h 4 u hj
  · simp at hj
    subst hj
    simp [Array.getElem?_setIfInBounds]
    omega
  · simp at hj
theorem take_set {cur : Array Value} {n i : Nat} {xs : List Value} {v : Value} (h : cur.toList.take n = xs) (hn : n ≤ cur.size) (hi : n ≤ i) : (cur.setIfInBounds i v).toList.take n = xs := by
  have hc9 : cur.toList.length = cur.size := by simp
  have hl : xs.length = n := by rw [← h, List.length_take, hc9]; omega
  have h1 := Has.out (q := i) (ds := [v]) (Has.of_take h) (.inl (by omega))
  exact Has.take_ (n := n) h1 hl (by simpa using hn)
set_option maxRecDepth 100000 in
set_option maxHeartbeats 8000000 in
theorem pinner_node (w0 : World) (p q o B gn : Nat) (x : W) (r : List W) (ns bs : List Nd) (n0 : Nd) (k0 k1 k2 k3 : Int) (nv bv iv av : Value) (out : Int) (w : World) (h : WsR 60 w0 w q (nameL bs.length true :: [61] :: x :: r) false) (hq : q < w.heap.size)
    (hb : Blk w p 87 (paCs k0 k1 k2 k3 nv out iv av 2)) (ho : InO p B gn w0 nv bv ns n0 bs) (hB0 : B ≤ w0.heap.size) (hw : ∀ y ∈ r, y.length ≤ 1000000) (hl : r.length ≤ 1000) (hnl : ns.length ≤ 1000) (hbl : bs.length ≤ 1000)
    (ht : Tab w0) (h1 : OpsT w0) (h2 : FnsT w0) (ho1 : 1 ≤ o) (ho12 : o < 12) (hx : opsAt o = x) (hne : x ≠ []) (hb9 : ∀ j, j < o → opsAt j ≠ x) (hm : (nodeP o r bs.length true).2 = false → mayB (nodeP o r bs.length true).1 true = true) :
    Calls Tryz.prog 66 #[.pointer (some ⟨p, 0, none⟩), .pointer (some ⟨q, 0, none⟩)] w fun e w' => e = .returned (.bool (!(nodeP o r bs.length true).2)) ∧ ∃ bv', Blk w' p 87 (paCs k0 k1 k2 k3 nv out iv av 2) ∧ InO p B gn w' nv bv' ns n0 (bs ++ [(nodeP o r bs.length true).1]) ∧ ExtQ (fun k => B ≤ k) w w' := by
  have HWS := Lib.hid h
  have HB := Lib.hid hb
  have HO := Lib.hid ho
  obtain ⟨A, c, hr0, hk⟩ := h.b
  have hr := RE.ext hr0 h.x
  have HR := Lib.hid hr
  have d0 := hk.cell 0
  have HEQ := Lib.hid (fun v b w hv hx => equal1_any v (nameL bs.length true :: [61] :: x :: r) enW9 b w hv (by simp; omega) hx)
  have HX1 := Lib.hid (show ¬ (nameL bs.length true :: [61] :: x :: r) = [enW9] from fun h => by injection h with _ h; cases h)
  have HSZ := Lib.hid (show p < B ∧ B ≤ w0.heap.size ∧ w0.heap.size ≤ q ∧ q < w.heap.size ∧ w0.heap.size ≤ w.heap.size from ⟨ho.lt.1, hB0, h.low, hq, h.x.size⟩)
  have HC := Lib.hid (fun w h hq => wnode_any w0 q o x r bs.length true w h hq hw (by omega) (by omega) ht h1 h2 ho1 ho12 hx hne hb9 hm)
  have HNL := Lib.hid (And.intro hnl hbl)
  have HOO := Lib.hid (And.intro ho1 ho12)
  obtain ⟨ins, kd, fa, a, bad, hN⟩ : ∃ ins kd fa a bad, nodeP o r bs.length true = (.mk o ins kd fa a [], bad) := ⟨_, _, _, _, _, rfl⟩
  rw [hN]
  dsimp only
  clear h hb hq ho hB0 hw hl ht h1 h2 hx hne hb9 hm hnl hbl hr hr0 hk
  generalize hWL : nameL bs.length true :: [61] :: x :: r = WL at *
  have HWL := Lib.hid hWL
  clear hWL
  obtain ⟨n, hn⟩ : ∃ n, n = bs.length := ⟨_, rfl⟩
  obtain ⟨An, cn, hbv⟩ := HO.out.b.form
  obtain ⟨cap, hnv, hcp1, hcp2, -⟩ := HO.out.v
  obtain ⟨m, hm⟩ : ∃ m, m = ns.length := ⟨_, rfl⟩
  rw [← hn] at hbv hN HC
  rw [← hm] at hnv hcp1
  obtain ⟨m1, hm1⟩ : ∃ m1, m1 = m + 1 := ⟨_, rfl⟩
  have HM1 := Lib.hid hm1
  rw [← hm1] at hnv hcp1
  have HNN := Lib.hid hN
  subst hbv
  subst hnv
  have HN := Lib.hid hn
  have HM := Lib.hid hm
  have HCP := Lib.hid (And.intro hcp1 hcp2)
  clear hn hN hm hcp1 hcp2 hm1
  have z4 := HB.out.cell 4
  go_enter Tryz.func66, Tryz.ntmps66
  go_wp2_with fail
  have he0 : Ext w (w.alloc (.cells #[.string ⟨#[101, 110, 100]⟩] 9)) := (Ext.refl _).alloc _
  refine (HEQ.out _ w.heap.size _ (HR.out.ext he0) (by
    have h1 : Blk (w.alloc (.cells #[.string ⟨#[101, 110, 100]⟩] 9)) w.heap.size 9 #[.string ⟨#[101, 110, 100]⟩] := Blk.new _ _ _
    exact h1.cell 0)).mono ?_
  rintro e w1 ⟨rfl, he1⟩
  have hx := he0.trans he1
  have HX := Lib.hid hx
  rw [decide_eq_false HX1.out]
  have HB1 := Lib.hid (HB.out.ext hx)
  have HW1 := Lib.hid (HWS.out.e hx)
  clear he0 he1 hx d0 z4
  have z4 := HB1.out.cell 4
  go_upto_region 4 with fail
  have s1 : IntKind.i64.wrap ((m1 : Int) - 1) = (m : Int) := by
    have h1 := HM1.out
    have h2 := HNL.out.1
    have h3 := HM.out
    rw [show (m1 : Int) - 1 = (m : Int) by omega]
    exact IntWalk.i64_in _ (by omega)
  have s2 : (m : Int) < (m1 : Int) := by have h1 := HM1.out; omega
  have s3 : m < m1 := by have h1 := HM1.out; omega
  refine wp_region_tailY 15 [] [] Ext Ext (fun _ => True) (by kernel_rfl) (by kernel_rfl) (by kernel_rfl) (by kernel_rfl) (by kernel_rfl) (by kernel_rfl) (by kernel_rfl) (by rfl) (by rfl) (by kernel_rfl) (by kernel_rfl) (by kernel_rfl) (fun _ _ _ x y => x.trans y) Ext.refl (fun _ _ x => x) (Ext.refl _).drew (fun _ _ x _ => x) trivial ?_
  refine ya ?_
  refine wpY_val rfl rfl (by first | exact runs0 | exact runs1 rfl) Ext.refl rfl ?_; apply Exists.intro; refine ⟨?_, ?_⟩
  · intro a w' hR h1
    have e1 : _ = _ := h1
    have hl0 := (HB1.out.ext hR).cell 4
    go_simp
    rfl
  refine ya ?_
  refine wpY_val rfl rfl (by first | exact runs0 | exact runs1 rfl) Ext.refl rfl ?_; apply Exists.intro; refine ⟨?_, ?_⟩
  · intro a w' hR h1
    have e1 : _ = _ := h1
    have hl0 := (HB1.out.ext hR).cell 4
    go_simp
    rfl
  refine ya ?_
  refine wpY_done ?_
  intro w2 hx2 hS
  iterate 15 (rintro _ rfl)
  dsimp only [FinV]
  go_simp
  have HX2 := Lib.hid (show Ext w1 w2 from hx2)
  have HB2 := Lib.hid (HB1.out.ext hx2)
  have HW2 := Lib.hid (HW1.out.e hx2)
  have HO2 := Lib.hid (show Ext w0 w2 from HWS.out.x.trans (HX.out.trans hx2))
  clear hx2 hS z4 s1 s2 s3
  simp only [thenTail, List.drop_succ_cons, List.drop_zero]
  obtain ⟨_, hnv2, hcp1, hcp2, cur, rows, u0, hgn, hcs, hct, hch, hrl, hr3, hr4⟩ := HO.out.v
  injection hnv2 with _ _ hnv2
  subst hnv2
  rw [← HM.out] at hct hch
  have HGN := Lib.hid (hgn.ext HO2.out)
  have HCH := Lib.hid hch
  have HCT := Lib.hid (And.intro hcs hct)
  have HRW := Lib.hid (And.intro hrl (And.intro hr3 hr4))
  clear hcp1 hcp2 hgn hcs hct hch hrl hr3 hr4
  have z5 : w2.cell? ⟨gn, m * 6 + 5, none⟩ = some (.slice An n cn) := (HGN.out.cell _).trans (HCH.out 5 _ rfl)
  go_wp2_with fail
  refine (HC.out _ HW2.out (Nat.lt_of_lt_of_le HSZ.out.2.2.2.1 (Nat.le_trans HX.out.size HX2.out.size))).mono ?_
  rintro e w3 ⟨⟨u, rfl, hou⟩, hq3⟩
  rw [HNN.out] at hou ⊢
  rw [show ((.mk o ins kd fa a [], bad) : Nd × Bool).1.kind = kd from rfl, show ((.mk o ins kd fa a [], bad) : Nd × Bool).1.fa = fa from rfl, show ((.mk o ins kd fa a [], bad) : Nd × Bool).1.a = a from rfl]
  dsimp only at hou ⊢
  have hou : OE 3 w2.heap.size w3 u ins := hou
  have HQ3 := Lib.hid hq3
  have HOU := Lib.hid hou
  obtain ⟨Au, cu, rfl⟩ := hou.re.form
  have HB3 := Lib.hid (HB2.out.extQ hq3 (fun e => by have e : p = q := e; have := HSZ.out; omega))
  have HGL := Lib.hid (show gn < w0.heap.size ∧ w0.heap.size ≤ w2.heap.size ∧ B ≤ gn ∧ p < B from ⟨by obtain ⟨_, _, _, _, cur, _, _, h, _⟩ := HO.out.v; exact h.lt, HO2.out.size, HO.out.lt.2, HO.out.lt.1⟩)
  have HGN3 := Lib.hid (HGN.out.extQ hq3 (fun e => by have e : gn = q := e; have h1 := HGL.out; have h2 := HSZ.out; omega))
  have HX30 := Lib.hid (show Ext w0 w3 from HO2.out.andQ hq3 (fun k hk => by have hk : k = q := hk; have := HSZ.out; omega))
  clear hou hq3 z5
  have hb0 := Bx6.new w3 57 (.int .i64 0) (.slice none 0 0) (.int .i64 0) (.int .i64 0) (.int .i64 0) (.slice none 0 0)
  have f0 : (w3.alloc (ndCs 0 0 0 0 (.slice none 0 0) (.slice none 0 0))).frozen? ⟨w3.heap.size, 0, none⟩ = false := hb0.b.frozen 0
  have f1 : (w3.alloc (ndCs 0 0 0 0 (.slice none 0 0) (.slice none 0 0))).frozen? ⟨w3.heap.size, 1, none⟩ = false := hb0.b.frozen 1
  have f2 : (w3.alloc (ndCs 0 0 0 0 (.slice none 0 0) (.slice none 0 0))).frozen? ⟨w3.heap.size, 2, none⟩ = false := hb0.b.frozen 2
  have f3 : (w3.alloc (ndCs 0 0 0 0 (.slice none 0 0) (.slice none 0 0))).frozen? ⟨w3.heap.size, 3, none⟩ = false := hb0.b.frozen 3
  have f4 : (w3.alloc (ndCs 0 0 0 0 (.slice none 0 0) (.slice none 0 0))).frozen? ⟨w3.heap.size, 4, none⟩ = false := hb0.b.frozen 4
  have f5 : (w3.alloc (ndCs 0 0 0 0 (.slice none 0 0) (.slice none 0 0))).frozen? ⟨w3.heap.size, 5, none⟩ = false := hb0.b.frozen 5
  clear hb0
  go_upto_region 6 with fail
  clear f0 f1 f2 f3 f4 f5
  have HQ4 := Lib.hid (show Ext w3 (w3.alloc (ndCs o kd fa a (.slice Au ins.length cu) (.slice none 0 0))) from (Ext.refl w3).alloc _)
  have HB6 := Lib.hid (Bx6.new w3 57 (.int .i64 o) (.slice Au ins.length cu) (.int .i64 kd) (.int .i64 fa) (.int .i64 a) (.slice none 0 0))
  obtain ⟨b6, hb6⟩ : ∃ b6, b6 = w3.heap.size := ⟨_, rfl⟩
  have HB6L := Lib.hid (show w2.heap.size ≤ b6 from by rw [hb6]; exact HQ3.out.size)
  rw [← hb6] at HB6 ⊢
  clear hb6
  generalize w3.alloc (ndCs o kd fa a (.slice Au ins.length cu) (.slice none 0 0)) = w4 at *
  have HB4 := Lib.hid (HB3.out.ext HQ4.out)
  have HGN4 := Lib.hid (HGN3.out.ext HQ4.out)
  have HOU4 := Lib.hid (HOU.out.ext HQ4.out)
  have HX0 := Lib.hid (show Ext w0 w4 from HX30.out.trans HQ4.out)
  have HBV := Lib.hid (show ∀ j, (Value.slice An n cn).ownBlock = some j → j ≠ p ∧ j ≠ gn ∧ j < w0.heap.size ∧ B ≤ j from fun j hj => by
    have h1 := HO.out.off j hj
    have h2 := HO.out.b.lt hj
    have h3 := HO.out.lt
    exact ⟨fun e => by omega, fun e => h1 (.inr e), h2.2, h2.1⟩)
  have HPB := Lib.hid (show ∀ w', ExtQ (fun k => (Value.slice An n cn).ownBlock = some k) w4 w' → Blk w' p 87 (paCs k0 k1 k2 k3 (.slice (some ⟨gn, 0, none⟩) m1 cap) out iv av 2) from fun w' hR => HB4.out.extQ hR (fun e => (HBV.out _ e).1 rfl))
  have HPG := Lib.hid (show ∀ w', ExtQ (fun k => (Value.slice An n cn).ownBlock = some k) w4 w' → Blk w' gn 57 cur from fun w' hR => HGN4.out.extQ hR (fun e => (HBV.out _ e).2.1 rfl))
  have HPC := Lib.hid (show ∀ w', ExtQ (fun k => (Value.slice An n cn).ownBlock = some k) w4 w' → w'.cell? ⟨gn, m * 6 + 5, none⟩ = some (.slice An n cn) from fun w' hR => ((HPG.out w' hR).cell _).trans (HCH.out 5 _ rfl))
  have HBX := Lib.hid (show ∀ w', ExtQ (fun k => (Value.slice An n cn).ownBlock = some k) w4 w' → Bx6 w' b6 57 (.int .i64 o) (.slice Au ins.length cu) (.int .i64 kd) (.int .i64 fa) (.int .i64 a) (.slice none 0 0) from fun w' hR => ⟨HB6.out.b.extQ hR (fun e => by have h1 := HBV.out _ e; have h2 := HGL.out; have h3 := HB6L.out; omega)⟩)
  obtain ⟨rowb, hr1, hr2, hr3⟩ := HO.out.b.ex
  have HR1 := Lib.hid (show w4.ownsRow B 57 6 (.slice An n cn) n rowb.flatten from by
    have h1 := ownsRow_ext hr1 HX0.out
    rw [hr2, ← HN.out] at h1
    exact h1)
  have HR3 := Lib.hid hr3
  have HR2 := Lib.hid hr2
  clear hr1 hr2 hr3
  generalize hxs : rowb.flatten = xs at *
  have HXS := Lib.hid hxs
  clear hxs
  refine wp_region_anyZ 8 [49] [48] Ext (ExtQ (fun k => (Value.slice An n cn).ownBlock = some k)) (fun w' => Ext w4 w') (by kernel_rfl) (by kernel_rfl) (by kernel_rfl) (by kernel_rfl) (by kernel_rfl) (by rfl) (by rfl) (by kernel_rfl) (by kernel_rfl) (by kernel_rfl) (fun _ _ _ x y => x.trans y) (ExtQ.refl _) (fun _ _ x => ExtQ.of x) Ext.refl (Ext.refl _).drew (fun _ _ x y => x.trans y) (Ext.refl _) ?_
  repeat (first | (refine wpZ_move0 rfl rfl (fun _ => (by first | exact runs0 | exact runs1 rfl)) Ext.refl rfl rfl (fun _ => rfl) ?_; apply Exists.intro; refine ⟨?_, ?_⟩; · (go_simp; rfl)) | (refine wpZ_val rfl rfl (fun _ => (by first | exact runs0 | exact runs1 rfl)) Ext.refl rfl ?_; apply Exists.intro; refine ⟨?_, ?_⟩; · (intro c a w' hR; intro h1; (first | (have e1 : _ = _ := h1) | skip); intro h2; (first | (have e2 : _ = _ := h2) | skip); go_simp; rfl)) | (refine wpZ_val rfl rfl (fun _ => (by first | exact runs0 | exact runs1 rfl)) Ext.refl rfl ?_; apply Exists.intro; refine ⟨?_, ?_⟩; · (intro c a w' hR; intro h1; (first | (have e1 : _ = _ := h1) | skip); go_simp; rfl)) | (refine wpZ_val rfl rfl (fun _ => (by first | exact runs0 | exact runs1 rfl)) Ext.refl rfl ?_; apply Exists.intro; refine ⟨?_, ?_⟩; · (intro c a w' hR; go_simp; rfl)) | (refine wpZ_val rfl rfl (fun _ => (by first | exact runs0 | exact runs1 rfl)) Ext.refl rfl ?_; apply Exists.intro; refine ⟨?_, ?_⟩; · (intro c a w' hR; intro h1; (first | (have e1 : _ = _ := h1) | skip); intro h2; (first | (have e2 : _ = _ := h2) | skip); intro h3; (first | (have e3 : _ = _ := h3) | skip); go_simp; rfl)))
  refine wpZ_val rfl rfl (fun _ => (by first | exact runs0 | exact runs1 rfl)) Ext.refl rfl ?_; apply Exists.intro; refine ⟨?_, ?_⟩
  · intro c a w' hR h1
    have e1 : _ = _ := h1
    have hl0 := HPC.out _ hR
    go_simp
    rfl
  refine wpZ_val rfl rfl (fun _ => (by first | exact runs0 | exact runs1 rfl)) Ext.refl rfl ?_; apply Exists.intro; refine ⟨?_, ?_⟩
  · intro c a w' hR h1
    have e1 : _ = _ := h1
    have hl0 := (HBX.out _ hR).b.cell 0
    have hl1 := (HBX.out _ hR).b.cell 1
    have hl2 := (HBX.out _ hR).b.cell 2
    have hl3 := (HBX.out _ hR).b.cell 3
    have hl4 := (HBX.out _ hR).b.cell 4
    have hl5 := (HBX.out _ hR).b.cell 5
    go_simp
    rfl
  repeat (first | (refine wpZ_move0 rfl rfl (fun _ => (by first | exact runs0 | exact runs1 rfl)) Ext.refl rfl rfl (fun _ => rfl) ?_; apply Exists.intro; refine ⟨?_, ?_⟩; · (go_simp; rfl)) | (refine wpZ_val rfl rfl (fun _ => (by first | exact runs0 | exact runs1 rfl)) Ext.refl rfl ?_; apply Exists.intro; refine ⟨?_, ?_⟩; · (intro c a w' hR; intro h1; (first | (have e1 : _ = _ := h1) | skip); intro h2; (first | (have e2 : _ = _ := h2) | skip); go_simp; rfl)) | (refine wpZ_val rfl rfl (fun _ => (by first | exact runs0 | exact runs1 rfl)) Ext.refl rfl ?_; apply Exists.intro; refine ⟨?_, ?_⟩; · (intro c a w' hR; intro h1; (first | (have e1 : _ = _ := h1) | skip); go_simp; rfl)) | (refine wpZ_val rfl rfl (fun _ => (by first | exact runs0 | exact runs1 rfl)) Ext.refl rfl ?_; apply Exists.intro; refine ⟨?_, ?_⟩; · (intro c a w' hR; go_simp; rfl)) | (refine wpZ_val rfl rfl (fun _ => (by first | exact runs0 | exact runs1 rfl)) Ext.refl rfl ?_; apply Exists.intro; refine ⟨?_, ?_⟩; · (intro c a w' hR; intro h1; (first | (have e1 : _ = _ := h1) | skip); intro h2; (first | (have e2 : _ = _ := h2) | skip); intro h3; (first | (have e3 : _ = _ := h3) | skip); go_simp; rfl)))
  refine wpZ_callA (fun c v w => c ≤ 0 → Rd w 6 v 1 ndZ) rfl rfl (by first | exact runs0 | exact runs1 rfl) rfl (keptC_0 fun _ _ _ h k => Rd.ext h k) ?_ ?_
  · intro a w' hR hS  K hK
    go_simp
    exact hK _ _ ((Ext.refl _).alloc _) fun _ => Rd.lit (size := 6) w' #[.int .i64 0, .slice none 0 0, .int .i64 0, .int .i64 0, .int .i64 0, .slice none 0 0] 57 1 rfl (by unfold maxLen; omega)
  refine wpZ_eff (fun c v w => 1 ≤ c ∧ (c ≤ 1 → ZAp 57 B 6 n w4.heap.size xs ndZ (Value.slice An n cn).ownBlock v w)) (fun _ => True) rfl (by first | exact runs0 | exact runs1 rfl) rfl (keptC_at fun _ _ _ h k => ZAp.ext h k) (fun _ _ _ _ => trivial) ?_ ?_
  · intro a w' hR hS h1 h2 K hK
    have e1 : _ = _ := h1
    obtain ⟨y9, ey9, fy9⟩ : ∃ x, a.tmps.getD 48 undef = x ∧ (fun v w => 0 ≤ 0 → Rd w 6 v 1 ndZ) x w' := ⟨_, rfl, h2⟩
    have hr9 := fy9 (Nat.le_refl _)
    have e1 : _ = _ := h1
    have hS : Ext w4 w' := hS
    refine wp_app elemNd w' (.tmp 45) (.tmp 48) rfl B (.slice An n cn) n xs e1 (ownsRow_ext HR1.out hS) _ 1 ndZ ey9 hr9 ndZ_one (by have h1 := HNL.out; have h2 := HN.out; omega) (by have h1 := HNL.out; have h2 := HN.out; unfold maxLen; omega) (by have h1 := HSZ.out; have h2 := HX0.out.size; have h3 := hS.size; omega) ?_
    intro v' w4 ha
    exact hK _ _ (ExtQ.grown ha.grown (fun k hk => hk)) trivial ⟨Nat.le_refl _, fun _ => ZAp.of ha hS.size (by omega) rfl⟩
  refine wpZ_done ?_
  intro w6 hx6 hS6
  iterate 6 (rintro _ rfl)
  iterate 1 (intro _ hz; clear hz)
  rintro v49 h49
  dsimp only [FinV]
  go_simp
  have hx6 : ExtQ (fun k => (Value.slice An n cn).ownBlock = some k) w4 w6 := hx6
  obtain ⟨g, cap2, rfl, hg, how⟩ := h49.2 (Nat.le_refl _)
  have hxl : xs.length = n * 6 := HR1.out.1
  obtain ⟨curb, hgb, hcs, hcn, hcm, hBg, hct, hcz⟩ := own_cells how hxl
  have hgp : g ≠ p := by have := HSZ.out; omega
  have hggn : g ≠ gn := by
    rcases hg with hg | hg
    · exact (HBV.out _ hg).2.1
    · have h1 := HGL.out; have h2 := HX0.out.size; omega
  have hgng : gn ≠ g := fun e => hggn e.symm
  have hpb := HPB.out _ hx6
  have hpg := HPG.out _ hx6
  have y4 := HPC.out _ hx6
  have f4 : w6.frozen? ⟨gn, m * 6 + 5, none⟩ = false := hpg.frozen _
  have z0 : w6.cell? ⟨g, n * 6, none⟩ = some (.int .i64 0) := (hgb.cell _).trans (hcz 0 _ rfl)
  have z1 : w6.cell? ⟨g, n * 6 + 1, none⟩ = some (.slice none 0 0) := (hgb.cell _).trans (hcz 1 _ rfl)
  have z2 : w6.cell? ⟨g, n * 6 + 2, none⟩ = some (.int .i64 0) := (hgb.cell _).trans (hcz 2 _ rfl)
  have z3 : w6.cell? ⟨g, n * 6 + 3, none⟩ = some (.int .i64 0) := (hgb.cell _).trans (hcz 3 _ rfl)
  have z40 : w6.cell? ⟨g, n * 6 + 4, none⟩ = some (.int .i64 0) := (hgb.cell _).trans (hcz 4 _ rfl)
  have z5 : w6.cell? ⟨g, n * 6 + 5, none⟩ = some (.slice none 0 0) := (hgb.cell _).trans (hcz 5 _ rfl)
  have g0 : w6.frozen? ⟨g, n * 6, none⟩ = false := hgb.frozen _
  have g1 : w6.frozen? ⟨g, n * 6 + 1, none⟩ = false := hgb.frozen _
  have g2 : w6.frozen? ⟨g, n * 6 + 2, none⟩ = false := hgb.frozen _
  have g3 : w6.frozen? ⟨g, n * 6 + 3, none⟩ = false := hgb.frozen _
  have g4 : w6.frozen? ⟨g, n * 6 + 4, none⟩ = false := hgb.frozen _
  have g5 : w6.frozen? ⟨g, n * 6 + 5, none⟩ = false := hgb.frozen _
  have hnn : (n : Int) < (n : Int) + 1 := by omega
  have HM6 := Lib.hid (show m * 6 + 6 ≤ cur.size from by have h1 := HCT.out.1; have h2 := HCP.out.1; have h3 := HM1.out; omega)
  have HFIN := Lib.hid (show ∀ wz, ExtQ (fun k => k = gn ∨ k = g) w6 wz → Blk wz gn 57 (cur.setIfInBounds (m * 6 + 5) (.slice (some ⟨g, 0, none⟩) (n + 1) cap2)) → wz.ownsRow B 57 6 (.slice (some ⟨g, 0, none⟩) (n + 1) cap2) (n + 1) (xs ++ [.int .i64 o, .slice Au ins.length cu, .int .i64 kd, .int .i64 fa, .int .i64 a, .slice none 0 0]) → ∃ bv', Blk wz p 87 (paCs k0 k1 k2 k3 (.slice (some ⟨gn, 0, none⟩) m1 cap) out iv av 2) ∧ InO p B gn wz (.slice (some ⟨gn, 0, none⟩) m1 cap) bv' ns n0 (bs ++ [.mk o ins kd fa a []]) ∧ ExtQ (fun k => B ≤ k) w wz from fun wz hz hbz hoz => by
    have s1 := HSZ.out
    have s2 := HX0.out.size
    have s3 := HB6.out.b.lt
    have s4 := hx6.size
    have s5 := hz.size
    have s6 := HB6L.out
    have s7 := HGL.out
    have s8 := HX.out.size
    have s9 := HX2.out.size
    have s10 := HQ3.out.size
    have s11 := HQ4.out.size
    have s12 := HM1.out
    have s13 := HM.out
    have hgn9 : ∀ j, (Value.slice An n cn).ownBlock = some j → j < w0.heap.size := fun j hj => (HBV.out j hj).2.2.1
    have hx0z : ExtQ (MayI B gn (.slice An n cn) w0) w0 wz := by
      refine ((ExtQ.of HX0.out).trans (hx6.mono fun k hk => .inr (.inr (.inl hk)))).trans (hz.mono fun k hk => ?_)
      rcases hk with hk | hk
      · exact .inr (.inl hk)
      · subst hk
        rcases hg with hg | hg
        · exact .inr (.inr (.inl hg))
        · exact .inr (.inr (.inr (by omega)))
    have step : ∀ W, ExtQ (MayI B gn (.slice (some ⟨g, 0, none⟩) (n + 1) cap2) wz) wz W → ExtQ (MayI B gn (.slice An n cn) w0) w0 W := fun W hW => hx0z.trans (hW.mono fun k hk => by
      rcases hk with hk | hk | hk | hk
      · exact .inl hk
      · exact .inr (.inl hk)
      · have hk : g = k := Option.some.inj hk
        subst hk
        rcases hg with hg | hg
        · exact .inr (.inr (.inl hg))
        · exact .inr (.inr (.inr (by omega)))
      · exact .inr (.inr (.inr (by omega))))
    have hre : ∀ W, ExtQ (fun k => k < B ∨ k = gn ∨ k = g ∨ wz.heap.size ≤ k) wz W → RE W (.slice Au ins.length cu) ins := fun W hW => by
      refine (oe_extQ' HOU4.out ((hx6.mono (Q' := fun k => k < B ∨ k = gn ∨ k = g ∨ (Value.slice An n cn).ownBlock = some k ∨ wz.heap.size ≤ k) fun k hk => .inr (.inr (.inr (.inl hk)))).trans ((hz.mono fun k hk => ?_).trans (hW.mono fun k hk => ?_))) (fun j hj e => ?_)).re
      · rcases hk with hk | hk
        · exact .inr (.inl hk)
        · exact .inr (.inr (.inl hk))
      · rcases hk with hk | hk | hk | hk
        · exact .inl hk
        · exact .inr (.inl hk)
        · exact .inr (.inr (.inl hk))
        · exact .inr (.inr (.inr (.inr hk)))
      · have h1 := HOU4.out.lt hj
        have h2 := HOU.out.lt hj
        rcases e with e | e | e | e | e
        · omega
        · omega
        · subst e
          rcases hg with hg | hg
          · have := hgn9 _ hg; omega
          · omega
        · have := hgn9 _ e; omega
        · omega
    refine ⟨_, hpb.extQ hz (fun e => by rcases e with e | e <;> omega), ⟨HO.out.lt, ⟨cap, by rw [s12, s13], by rw [← s13, ← s12]; exact HCP.out.1, HCP.out.2, cur.setIfInBounds (m * 6 + 5) (.slice (some ⟨g, 0, none⟩) (n + 1) cap2), rows, u0, hbz, by rw [Array.size_setIfInBounds]; exact HCT.out.1, by rw [← s13]; exact take_set HCT.out.2 (by have := HM6.out; omega) (by omega), by rw [← s13]; exact has_last HCH.out HM6.out, HRW.out.1, fun i r x hr hx => ⟨(HRW.out.2.1 i r x hr hx).1, fun W hW => (HRW.out.2.1 i r x hr hx).2 W (step W hW)⟩, fun W hW => HRW.out.2.2 W (step W hW)⟩, ?_, fun e => hggn (Option.some.inj e)⟩, ?_⟩
    · rw [← HXS.out] at hoz
      refine os_put HR2.out HR3.out (by rw [← HN.out]; exact hoz) (hx0z.mono fun k hk => ?_) (fun j hj => ?_) rfl (fun W hW => ⟨_, _, rfl, hre W (hW.mono fun k hk => ?_), NodesR.nil 0 W⟩)
      · rcases hk with hk | hk | hk | hk
        · exact .inl (.inl hk)
        · exact .inl (.inr hk)
        · exact .inr (.inl hk)
        · exact .inr (.inr hk)
      · have hj : g = j := Option.some.inj hj
        subst hj
        rcases hg with hg | hg
        · exact .inl hg
        · exact .inr (by omega)
      · rcases hk with (hk | hk) | hk | hk
        · exact .inl hk
        · exact .inr (.inl hk)
        · exact .inr (.inr (.inl (Option.some.inj hk).symm))
        · exact .inr (.inr (.inr hk))
    · refine (((((ExtQ.of HX.out).trans (ExtQ.of HX2.out)).trans (HQ3.out.mono fun k hk => ?_)).trans (ExtQ.of HQ4.out)).trans (hx6.mono fun k hk => (HBV.out k hk).2.2.2)).trans (hz.mono fun k hk => ?_)
      · have hk : k = q := hk
        show B ≤ k
        omega
      · show B ≤ k
        rcases hk with hk | hk <;> omega)
  show wpAny _ _ _ _ 5 _ _ _
  refine wpAny_take (i := 8) (v := ?_) rfl (by kernel_rfl) (by kernel_rfl) (by kernel_rfl) (fun _ _ _ h => h) (Or.inl ⟨by rfl, ?_⟩) ?_
  rotate_left
  · intro W9
    go_simp
    with_reducible rfl
  refine wpAny_take (i := 10) (v := ?_) rfl (by kernel_rfl) (by kernel_rfl) (by kernel_rfl) (fun _ _ _ h => h) (Or.inl ⟨by rfl, ?_⟩) ?_
  rotate_left
  · intro W9
    go_simp
    with_reducible rfl
  refine wpAny_take (i := 11) (v := ?_) rfl (by kernel_rfl) (by kernel_rfl) (by kernel_rfl) (fun _ _ _ h => h) (Or.inl ⟨by rfl, ?_⟩) ?_
  rotate_left
  · intro W9
    go_simp
    with_reducible rfl
  refine wpAny_ready (rs := [9, 12]) (by kernel_rfl) (by simp) ?_
  refine AllReady.cons rfl (fun K hK => ?_) (AllReady.cons rfl (fun K hK => ?_) AllReady.nil)
  all_goals
    go_simp
    refine hK _ _ ?_
    clear hK K
  · refine wpAny_ready (rs := [12]) (by kernel_rfl) (by simp) ?_
    refine AllReady.cons rfl (fun K hK => ?_) AllReady.nil
    go_simp
    refine hK _ _ ?_
    refine wpAny_done (by kernel_rfl) ?_ _
    go_wp2
    go_ret
    have e1 : ExtQ (fun k => k = g) w6 (w6.setCells g (n * 6) [.int .i64 o, .slice Au ins.length cu, .int .i64 kd, .int .i64 fa, .int .i64 a, .slice none 0 0]) := ExtQ.setCells (Q := fun k => k = g) (ExtQ.refl _ _) rfl _ _
    have e2 : ∀ w9 : World, ExtQ (fun k => k = gn) w9 (w9.setCell ⟨gn, m * 6 + 5, none⟩ (.slice (some ⟨g, 0, none⟩) (n + 1) cap2)) := fun w9 => exq_set1 w9 gn (m * 6 + 5) _
    obtain ⟨bv', q1, q2, q3⟩ := HFIN.out _ ((e1.mono fun k hk => .inr hk).trans ((e2 _).mono fun k hk => .inl hk)) ((hpg.extQ e1 hgng).set_ (m * 6 + 5) _) (ownsRow_extQ (own_put (r := [.int .i64 o, .slice Au ins.length cu, .int .i64 kd, .int .i64 fa, .int .i64 a, .slice none 0 0]) hgb hcs hcn hcm hBg hct rfl) (e2 _) (fun k hk e => hggn ((Option.some.inj hk).trans e)))
    have hm9 : m1 = ns.length + 1 := by have h1 := HM1.out; have h2 := HM.out; omega
    rw [hm9] at q1 q2
    exact ⟨rfl, q1, ⟨_, q2⟩, q3⟩
  · refine wpAny_ready (rs := [9]) (by kernel_rfl) (by simp) ?_
    refine AllReady.cons rfl (fun K hK => ?_) AllReady.nil
    go_simp
    refine hK _ _ ?_
    refine wpAny_done (by kernel_rfl) ?_ _
    go_wp2
    go_ret
    have e1 : ∀ w9 : World, ExtQ (fun k => k = g) w9 (w9.setCells g (n * 6) [.int .i64 o, .slice Au ins.length cu, .int .i64 kd, .int .i64 fa, .int .i64 a, .slice none 0 0]) := fun w9 => ExtQ.setCells (Q := fun k => k = g) (ExtQ.refl _ _) rfl _ _
    have e2 : ExtQ (fun k => k = gn) w6 (w6.setCell ⟨gn, m * 6 + 5, none⟩ (.slice (some ⟨g, 0, none⟩) (n + 1) cap2)) := exq_set1 w6 gn (m * 6 + 5) _
    obtain ⟨bv', q1, q2, q3⟩ := HFIN.out _ ((e2.mono fun k hk => .inl hk).trans ((e1 _).mono fun k hk => .inr hk)) ((hpg.set_ (m * 6 + 5) _).extQ (e1 _) hgng) (own_put (r := [.int .i64 o, .slice Au ins.length cu, .int .i64 kd, .int .i64 fa, .int .i64 a, .slice none 0 0]) (hgb.extQ e2 hggn) hcs hcn hcm hBg hct rfl)
    have hm9 : m1 = ns.length + 1 := by have h1 := HM1.out; have h2 := HM.out; omega
    rw [hm9] at q1 q2
    exact ⟨rfl, q1, ⟨_, q2⟩, q3⟩
end Go.Proofs.YtpmgmiiidfconaaGreatDoor
