/-
  Layer 17: GraphCodes.
-/
import Derived.BigRegion
import Derived.Test.YtpmikcklkddocaaGrLives
import Derived.Test.YtpmikcklkddocaaGrArgs
namespace Go.Ox.Gr
theorem fit_hdr {n : Nd} (h : okI n.op ∧ okI n.kind ∧ okI n.fa ∧ okI n.a ∧ n.ins.length ≤ 2 ∧ ∀ x ∈ n.ins, okI x) : (hdrL n).length ≤ 63 := by
  obtain ⟨h1, h2, h3, h4, h5, h6⟩ := h
  have a1 := numsL_len [n.op, (n.ins.length : Int)] (by intro x hx; simp at hx; rcases hx with rfl | rfl; exact h1; omega)
  have a2 := numsL_len n.ins h6
  have a3 := numsL_len [n.kind, n.fa, n.a] (by intro x hx; simp at hx; rcases hx with rfl | rfl | rfl; exact h2; exact h3; exact h4)
  unfold hdrL
  rw [List.length_append, List.length_append]
  simp only [List.length_cons, List.length_nil] at a1 a3
  omega
theorem fit_step {d C : Nat} {l : List Nd} (h : Fit (d + 1) l) (hb : ∀ l, Fit d l → (ndsL d l).length ≤ C) : (ndsL (d + 1) l).length ≤ 9 + 32 * (63 + C) := by
  have h0 := put_le9 (n := l.length) (by have := h.1; omega)
  have h1 := flat_le (fun n => hdrL n ++ ndsL d n.body) (63 + C) l (fun n hn => by
    have a := fit_hdr (h.2 n hn).1
    have b := hb _ (h.2 n hn).2
    rw [List.length_append]; omega)
  have h3 : l.length * (63 + C) ≤ 32 * (63 + C) := Nat.mul_le_mul_right _ h.1
  unfold ndsL
  rw [List.length_append]
  omega
theorem grL_len {l : List Nd} {out : Int} (h : Fit 2 l) (ho : okI out) : (grL (l, out)).length ≤ 1000000 := by
  have h2 : (ndsL 2 l).length ≤ 9 + 32 * (63 + (9 + 32 * (63 + 9))) := fit_step (C := 9 + 32 * (63 + 9)) h (fun l h1 => fit_step (C := 9) h1 (fun l h0 => by
    obtain rfl : l = [] := h0
    exact put_le9 (by simp)))
  have h3 := put_le9 (n := out.toNat) (by have := ho.1; have := ho.2; omega)
  unfold grL
  rw [List.length_append]
  dsimp only
  omega
end Go.Ox.Gr
namespace Go.Proofs.Ytpmikcklkddocaa
open Go.RowKit Go.Ox Go.Ox.Gr
set_option linter.unusedVariables false
set_option linter.unusedSimpArgs false
attribute [local irreducible] RE OE NodesR RB OB
set_option maxRecDepth 100000 in
set_option maxHeartbeats 4000000 in
theorem graphCodes_large (d d' : Nat) (v v' : Value) (g h : G) (w : World) (hv : NodesR d w v g.1) (hv' : NodesR d' w v' h.1) (hl : largeB g.1 = true ∨ (largeB g.1 = false ∧ largeB h.1 = true)) :
    Calls Try.prog 5 #[gAg v g.2, gAg v' h.2] w fun e w' => e = .returned (.bool true) ∧ Ext w w' := by
  obtain ⟨l, out⟩ := g
  obtain ⟨l', out'⟩ := h
  dsimp only at hv hv' hl ⊢
  obtain ⟨A, c, rfl⟩ := hv.form
  obtain ⟨A', c', rfl⟩ := hv'.form
  have HL := Lib.hid lives_any
  have hal := ((Ext.refl w).alloc (gCs (.slice A l.length c) out)).alloc (gCs (.slice A' l'.length c') out')
  have HX := Lib.hid hal
  have HB := Lib.hid ((Blk.new w 24 #[.slice A l.length c, .int .i64 out]).ext ((Ext.refl _).alloc (gCs (.slice A' l'.length c') out')))
  have HB' := Lib.hid (Blk.new (w.alloc (gCs (.slice A l.length c) out)) 24 #[.slice A' l'.length c', .int .i64 out'])
  have HV := Lib.hid (hv.ext hal)
  have HV' := Lib.hid (hv'.ext hal)
  have HLG := Lib.hid (fun w h => large_any d (.slice A l.length c) l out w h)
  have HLG' := Lib.hid (fun w h => large_any d' (.slice A' l'.length c') l' out' w h)
  have hsz : (w.alloc (gCs (.slice A l.length c) out)).heap.size = w.heap.size + 1 := by simp
  rw [hsz] at HB'
  clear hv hv' hal hsz
  go_enter Try.func5, Try.ntmps5
  go_upto_region 1 with fail
  generalize w.heap.size = p at *
  generalize (w.alloc (gCs (.slice A l.length c) out)).alloc (gCs (.slice A' l'.length c') out') = w0 at *
  have y0 : w0.cell? ⟨p, 0, none⟩ = some (.slice A l.length c) := HB.out.cell 0
  have y1 : w0.cell? ⟨p, 1, none⟩ = some (.int .i64 out) := HB.out.cell 1
  have HC := Lib.hid (HLG.out _ HV.out)
  rcases hl with hl | ⟨hl, hl'⟩
  · rw [hl] at HC
    clear hl
    go_wp2_with fail
    refine HC.out.mono ?_
    rintro e w1 ⟨rfl, he⟩
    replace HX := Lib.hid (HX.out.trans he)
    clear he y0 y1 HC
    go_wp2_with fail
    refine (HL.out _).mono ?_
    rintro e w2 ⟨rfl, he⟩
    replace HX := Lib.hid (HX.out.trans he)
    clear he
    go_wp2
    go_ret
    exact ⟨rfl, HX.out⟩
  · rw [hl] at HC
    rw [hl'] at HLG'
    clear hl hl'
    go_wp2_with fail
    refine HC.out.mono ?_
    rintro e w1 ⟨rfl, he⟩
    replace HX := Lib.hid (HX.out.trans he)
    replace HV' := Lib.hid (HV'.out.ext he)
    replace HB' := Lib.hid (HB'.out.ext he)
    clear he y0 y1 HC
    have y0 : w1.cell? ⟨p + 1, 0, none⟩ = some (.slice A' l'.length c') := HB'.out.cell 0
    have y1 : w1.cell? ⟨p + 1, 1, none⟩ = some (.int .i64 out') := HB'.out.cell 1
    have HC := Lib.hid (HLG'.out _ HV'.out)
    go_wp2_with fail
    refine HC.out.mono ?_
    rintro e w2 ⟨rfl, he⟩
    replace HX := Lib.hid (HX.out.trans he)
    clear he y0 y1 HC
    go_wp2_with fail
    refine (HL.out _).mono ?_
    rintro e w3 ⟨rfl, he⟩
    replace HX := Lib.hid (HX.out.trans he)
    clear he
    go_wp2
    go_ret
    exact ⟨rfl, HX.out⟩
set_option maxRecDepth 100000 in
set_option maxHeartbeats 8000000 in
theorem graphCodes_small (d d' : Nat) (v v' : Value) (g h : G) (w : World) (hv : NodesR d w v g.1) (hv' : NodesR d' w v' h.1) (hl : largeB g.1 = false) (hl' : largeB h.1 = false) :
    Calls Try.prog 5 #[gAg v g.2, gAg v' h.2] w fun e w' => e = .returned (.bool true) ∧ Ext w w' := by
  obtain ⟨l, out⟩ := g
  obtain ⟨l', out'⟩ := h
  dsimp only at hv hv' hl hl' ⊢
  obtain ⟨A, c, rfl⟩ := hv.form
  obtain ⟨A', c', rfl⟩ := hv'.form
  have HL := Lib.hid lives_any
  have hal := ((Ext.refl w).alloc (gCs (.slice A l.length c) out)).alloc (gCs (.slice A' l'.length c') out')
  have HX := Lib.hid hal
  have HB := Lib.hid ((Blk.new w 24 #[.slice A l.length c, .int .i64 out]).ext ((Ext.refl _).alloc (gCs (.slice A' l'.length c') out')))
  have HB' := Lib.hid (Blk.new (w.alloc (gCs (.slice A l.length c) out)) 24 #[.slice A' l'.length c', .int .i64 out'])
  have HV := Lib.hid (hv.ext hal)
  have HV' := Lib.hid (hv'.ext hal)
  have HLG := Lib.hid (fun w h => large_any d (.slice A l.length c) l out w h)
  have HLG' := Lib.hid (fun w h => large_any d' (.slice A' l'.length c') l' out' w h)
  rw [hl] at HLG
  rw [hl'] at HLG'
  have HGS := Lib.hid (fun w h1 h2 => gSame_any 4 d d' (.slice A l.length c) (.slice A' l'.length c') l l' out out' w (Sm.of_deep hl) h1 h2)
  have HRS := Lib.hid (fun w h1 h2 => rSameG_any 4 d d' (.slice A l.length c) (.slice A' l'.length c') l l' out out' w (by omega) (Sm.of_deep hl) h1 h2)
  have HRC := Lib.hid (fun w h => rCheck_any d (.slice A l.length c) l out w h)
  have hsz : (w.alloc (gCs (.slice A l.length c) out)).heap.size = w.heap.size + 1 := by simp
  rw [hsz] at HB'
  have HPB := Lib.hid (fun (hk : gOk (l, out) = false) w h => gPut_bad d (.slice A l.length c) l out w h hk)
  have HPO := Lib.hid (fun (hk : gOk (l, out) = true) w h => gPut_any d (.slice A l.length c) l out w h hk (gOk_fit hk).1.put (gOk_fit hk).2)
  have HRP := Lib.hid (fun (hk : gOk (l, out) = true) w h => rPut_any d (.slice A l.length c) l out w h (gOk_fit hk).1.put (gOk_fit hk).2)
  have HGG := Lib.hid (fun (hk : gOk (l, out) = true) (hb : (grL (l, out)).length ≤ 1000000) u w (h : RB w u (grL (l, out))) => show Calls Try.prog 29 #[u] w fun e w' => ∃ u, e = .returned (.tuple #[gAg u out, .int .i64 0]) ∧ NodesR 2 w' u l ∧ Ext w w' from by
    have := gGet_any u _ w h hb
    rw [get_put (g := (l, out)) (gOk_fit hk).1 (gOk_fit hk).2 hk] at this
    exact this)
  have HR2 := Lib.hid (fun (hk : gOk (l, out) = true) u w h1 h2 => rSameG_any 2 2 d u (.slice A l.length c) l l out out w (by omega) (gOk_sm hk) h1 h2)
  have HLEN := Lib.hid (fun (hk : gOk (l, out) = true) => grL_len (gOk_fit hk).1 (gOk_fit hk).2)
  obtain ⟨bs, hbs⟩ : ∃ bs : Bool, bs = true ↔ ((l, out) : G) = (l', out') := by classical exact ⟨decide (((l, out) : G) = (l', out')), by simp⟩
  have HBS := Lib.hid hbs
  clear hv hv' hal hsz hl hl' hbs
  go_enter Try.func5, Try.ntmps5
  go_upto_region 1 with fail
  generalize w.heap.size = p at *
  generalize (w.alloc (gCs (.slice A l.length c) out)).alloc (gCs (.slice A' l'.length c') out') = w0 at *
  have y0 : w0.cell? ⟨p, 0, none⟩ = some (.slice A l.length c) := HB.out.cell 0
  have y1 : w0.cell? ⟨p, 1, none⟩ = some (.int .i64 out) := HB.out.cell 1
  have HC := Lib.hid (HLG.out _ HV.out)
  go_wp2_with fail
  refine HC.out.mono ?_
  rintro e w1 ⟨rfl, he⟩
  replace HX := Lib.hid (HX.out.trans he)
  replace HV := Lib.hid (HV.out.ext he)
  replace HB := Lib.hid (HB.out.ext he)
  replace HV' := Lib.hid (HV'.out.ext he)
  replace HB' := Lib.hid (HB'.out.ext he)
  clear he y0 y1 HC
  have y0 : w1.cell? ⟨p + 1, 0, none⟩ = some (.slice A' l'.length c') := HB'.out.cell 0
  have y1 : w1.cell? ⟨p + 1, 1, none⟩ = some (.int .i64 out') := HB'.out.cell 1
  have HC := Lib.hid (HLG'.out _ HV'.out)
  go_wp2_with fail
  refine HC.out.mono ?_
  rintro e w2 ⟨rfl, he⟩
  replace HX := Lib.hid (HX.out.trans he)
  replace HV := Lib.hid (HV.out.ext he)
  replace HB := Lib.hid (HB.out.ext he)
  replace HV' := Lib.hid (HV'.out.ext he)
  replace HB' := Lib.hid (HB'.out.ext he)
  clear he y0 y1 HC HLG HLG'
  have y0 : w2.cell? ⟨p, 0, none⟩ = some (.slice A l.length c) := HB.out.cell 0
  have y1 : w2.cell? ⟨p, 1, none⟩ = some (.int .i64 out) := HB.out.cell 1
  cases hok : gOk (l, out) with
  | false =>
    have HC := Lib.hid (HPB.out hok _ HV.out)
    rw [hok] at HRC
    clear hok HPB HPO HRP HGG HR2 HLEN
    go_wp2_with fail
    refine HC.out.mono ?_
    rintro e w3 ⟨rfl, he⟩
    replace HX := Lib.hid (HX.out.trans he)
    replace HV := Lib.hid (HV.out.ext he)
    replace HB := Lib.hid (HB.out.ext he)
    replace HV' := Lib.hid (HV'.out.ext he)
    replace HB' := Lib.hid (HB'.out.ext he)
    clear he y0 y1 HC
    go_upto_region 4 with fail
    have y0 : w3.cell? ⟨p, 0, none⟩ = some (.slice A l.length c) := HB.out.cell 0
    have y1 : w3.cell? ⟨p, 1, none⟩ = some (.int .i64 out) := HB.out.cell 1
    have z0 : w3.cell? ⟨p + 1, 0, none⟩ = some (.slice A' l'.length c') := HB'.out.cell 0
    have z1 : w3.cell? ⟨p + 1, 1, none⟩ = some (.int .i64 out') := HB'.out.cell 1
    have hbb0 : (bs != bs) = false := by simp
    refine wp_region_ext (by kernel_rfl) (by rfl) (by rfl) (by kernel_rfl) ?_
    first | (refine wpM_call0 (fun v _ => v = .bool true) rfl (by first | exact mono_eq | exact (fun _ _ _ ⟨n, h1, h2, h3⟩ k => ⟨n, h1, h2, h3.ext k⟩) | exact (fun _ _ _ h k => RB.ext h k) | exact (fun _ _ _ h k => OB.ext h k) | exact (fun _ _ _ h k => Rd.ext h k) | exact (fun _ _ _ h k => ownsRow_ext h k) | exact (fun _ _ _ h k => RB.extC h k) | exact (fun _ _ _ h k => FB.extC h k) | exact (fun _ _ _ h k => Rd.extC h k) | exact (fun _ _ _ h k => RP.ext h k) | exact (fun _ _ _ h k => RE.ext h k)) ?_ ?_) | (refine wpM_call1 (fun v _ => v = .bool true) rfl rfl (by first | exact mono_eq | exact (fun _ _ _ ⟨n, h1, h2, h3⟩ k => ⟨n, h1, h2, h3.ext k⟩) | exact (fun _ _ _ h k => RB.ext h k) | exact (fun _ _ _ h k => OB.ext h k) | exact (fun _ _ _ h k => Rd.ext h k) | exact (fun _ _ _ h k => ownsRow_ext h k) | exact (fun _ _ _ h k => RB.extC h k) | exact (fun _ _ _ h k => FB.extC h k) | exact (fun _ _ _ h k => Rd.extC h k) | exact (fun _ _ _ h k => RP.ext h k) | exact (fun _ _ _ h k => RE.ext h k)) ?_ ?_)
    · intro a w' hR  K hK
      go_simp
      refine (HL.out w').mono ?_
      rintro e w2 ⟨rfl, he⟩
      exact hK _ _ he rfl
    repeat (first | ((first | (refine wpM_move00 Ext.refl rfl rfl rfl ?_) | (refine wpM_move01 Ext.refl rfl rfl rfl rfl ?_)); apply Exists.intro; refine ⟨?_, ?_⟩; · (go_simp; rfl)) | (first | (refine wpM_movek0 Ext.refl rfl rfl rfl ?_) | (refine wpM_movek1 Ext.refl rfl rfl rfl rfl ?_)) | ((first | (refine wpM_val0 Ext.refl rfl ?_) | (refine wpM_val1 Ext.refl rfl rfl ?_)); apply Exists.intro; refine ⟨?_, ?_⟩; · (intro a w' hR; intro h1; (first | (have e1 : _ = _ := h1) | skip); intro h2; (first | (have e2 : _ = _ := h2) | skip); go_simp; rfl)) | ((first | (refine wpM_val0 Ext.refl rfl ?_) | (refine wpM_val1 Ext.refl rfl rfl ?_)); apply Exists.intro; refine ⟨?_, ?_⟩; · (intro a w' hR; intro h1; (first | (have e1 : _ = _ := h1) | skip); go_simp; rfl)) | ((first | (refine wpM_val0 Ext.refl rfl ?_) | (refine wpM_val1 Ext.refl rfl rfl ?_)); apply Exists.intro; refine ⟨?_, ?_⟩; · (intro a w' hR; go_simp; rfl)) | ((first | (refine wpM_val0 Ext.refl rfl ?_) | (refine wpM_val1 Ext.refl rfl rfl ?_)); apply Exists.intro; refine ⟨?_, ?_⟩; · (intro a w' hR; intro h1; (first | (have e1 : _ = _ := h1) | skip); intro h2; (first | (have e2 : _ = _ := h2) | skip); intro h3; (first | (have e3 : _ = _ := h3) | skip); go_simp; rfl)) | (refine wpM_skip1 rfl ?_) | (refine wpM_skipU rfl ?_))
    (first | (refine wpM_val0 Ext.refl rfl ?_) | (refine wpM_val1 Ext.refl rfl rfl ?_)); apply Exists.intro; refine ⟨?_, ?_⟩
    · intro a w' hR h1
      have e1 : _ = _ := h1
      have hl0 := hR.cell y0
      have hl1 := hR.cell y1
      go_simp
      rfl
    (first | (refine wpM_val0 Ext.refl rfl ?_) | (refine wpM_val1 Ext.refl rfl rfl ?_)); apply Exists.intro; refine ⟨?_, ?_⟩
    · intro a w' hR h1
      have e1 : _ = _ := h1
      have hl0 := hR.cell z0
      have hl1 := hR.cell z1
      go_simp
      rfl
    first | (refine wpM_call0 (fun v _ => v = .bool bs) rfl (by first | exact mono_eq | exact (fun _ _ _ ⟨n, h1, h2, h3⟩ k => ⟨n, h1, h2, h3.ext k⟩) | exact (fun _ _ _ h k => RB.ext h k) | exact (fun _ _ _ h k => OB.ext h k) | exact (fun _ _ _ h k => Rd.ext h k) | exact (fun _ _ _ h k => ownsRow_ext h k) | exact (fun _ _ _ h k => RB.extC h k) | exact (fun _ _ _ h k => FB.extC h k) | exact (fun _ _ _ h k => Rd.extC h k) | exact (fun _ _ _ h k => RP.ext h k) | exact (fun _ _ _ h k => RE.ext h k)) ?_ ?_) | (refine wpM_call1 (fun v _ => v = .bool bs) rfl rfl (by first | exact mono_eq | exact (fun _ _ _ ⟨n, h1, h2, h3⟩ k => ⟨n, h1, h2, h3.ext k⟩) | exact (fun _ _ _ h k => RB.ext h k) | exact (fun _ _ _ h k => OB.ext h k) | exact (fun _ _ _ h k => Rd.ext h k) | exact (fun _ _ _ h k => ownsRow_ext h k) | exact (fun _ _ _ h k => RB.extC h k) | exact (fun _ _ _ h k => FB.extC h k) | exact (fun _ _ _ h k => Rd.extC h k) | exact (fun _ _ _ h k => RP.ext h k) | exact (fun _ _ _ h k => RE.ext h k)) ?_ ?_)
    · intro a w' hR h1 h2 K hK
      have e1 : _ = _ := h1
      have e2 : _ = _ := h2
      go_simp
      refine (HGS.out w' (HV.out.ext hR) (HV'.out.ext hR)).mono ?_
      rintro e w2 ⟨bb, rfl, hbb, he⟩
      exact hK _ _ he (by rw [show bb = bs from Bool.eq_iff_iff.2 (hbb.trans HBS.out.symm)])
    (first | (refine wpM_val0 Ext.refl rfl ?_) | (refine wpM_val1 Ext.refl rfl rfl ?_)); apply Exists.intro; refine ⟨?_, ?_⟩
    · intro a w' hR h1
      have e1 : _ = _ := h1
      have hl0 := hR.cell y0
      have hl1 := hR.cell y1
      go_simp
      rfl
    (first | (refine wpM_val0 Ext.refl rfl ?_) | (refine wpM_val1 Ext.refl rfl rfl ?_)); apply Exists.intro; refine ⟨?_, ?_⟩
    · intro a w' hR h1
      have e1 : _ = _ := h1
      have hl0 := hR.cell z0
      have hl1 := hR.cell z1
      go_simp
      rfl
    first | (refine wpM_call0 (fun v _ => v = .bool bs) rfl (by first | exact mono_eq | exact (fun _ _ _ ⟨n, h1, h2, h3⟩ k => ⟨n, h1, h2, h3.ext k⟩) | exact (fun _ _ _ h k => RB.ext h k) | exact (fun _ _ _ h k => OB.ext h k) | exact (fun _ _ _ h k => Rd.ext h k) | exact (fun _ _ _ h k => ownsRow_ext h k) | exact (fun _ _ _ h k => RB.extC h k) | exact (fun _ _ _ h k => FB.extC h k) | exact (fun _ _ _ h k => Rd.extC h k) | exact (fun _ _ _ h k => RP.ext h k) | exact (fun _ _ _ h k => RE.ext h k)) ?_ ?_) | (refine wpM_call1 (fun v _ => v = .bool bs) rfl rfl (by first | exact mono_eq | exact (fun _ _ _ ⟨n, h1, h2, h3⟩ k => ⟨n, h1, h2, h3.ext k⟩) | exact (fun _ _ _ h k => RB.ext h k) | exact (fun _ _ _ h k => OB.ext h k) | exact (fun _ _ _ h k => Rd.ext h k) | exact (fun _ _ _ h k => ownsRow_ext h k) | exact (fun _ _ _ h k => RB.extC h k) | exact (fun _ _ _ h k => FB.extC h k) | exact (fun _ _ _ h k => Rd.extC h k) | exact (fun _ _ _ h k => RP.ext h k) | exact (fun _ _ _ h k => RE.ext h k)) ?_ ?_)
    · intro a w' hR h1 h2 K hK
      have e1 : _ = _ := h1
      have e2 : _ = _ := h2
      go_simp
      refine (HRS.out w' (HV.out.ext hR) (HV'.out.ext hR)).mono ?_
      rintro e w2 ⟨bb, rfl, hbb, he⟩
      exact hK _ _ he (by rw [show bb = bs from Bool.eq_iff_iff.2 (hbb.trans HBS.out.symm)])
    repeat (first | ((first | (refine wpM_move00 Ext.refl rfl rfl rfl ?_) | (refine wpM_move01 Ext.refl rfl rfl rfl rfl ?_)); apply Exists.intro; refine ⟨?_, ?_⟩; · (go_simp; rfl)) | (first | (refine wpM_movek0 Ext.refl rfl rfl rfl ?_) | (refine wpM_movek1 Ext.refl rfl rfl rfl rfl ?_)) | ((first | (refine wpM_val0 Ext.refl rfl ?_) | (refine wpM_val1 Ext.refl rfl rfl ?_)); apply Exists.intro; refine ⟨?_, ?_⟩; · (intro a w' hR; intro h1; (first | (have e1 : _ = _ := h1) | skip); intro h2; (first | (have e2 : _ = _ := h2) | skip); go_simp; rfl)) | ((first | (refine wpM_val0 Ext.refl rfl ?_) | (refine wpM_val1 Ext.refl rfl rfl ?_)); apply Exists.intro; refine ⟨?_, ?_⟩; · (intro a w' hR; intro h1; (first | (have e1 : _ = _ := h1) | skip); go_simp; rfl)) | ((first | (refine wpM_val0 Ext.refl rfl ?_) | (refine wpM_val1 Ext.refl rfl rfl ?_)); apply Exists.intro; refine ⟨?_, ?_⟩; · (intro a w' hR; go_simp; rfl)) | ((first | (refine wpM_val0 Ext.refl rfl ?_) | (refine wpM_val1 Ext.refl rfl rfl ?_)); apply Exists.intro; refine ⟨?_, ?_⟩; · (intro a w' hR; intro h1; (first | (have e1 : _ = _ := h1) | skip); intro h2; (first | (have e2 : _ = _ := h2) | skip); intro h3; (first | (have e3 : _ = _ := h3) | skip); go_simp; rfl)) | (refine wpM_skip1 rfl ?_) | (refine wpM_skipU rfl ?_))
    (first | (refine wpM_val0 Ext.refl rfl ?_) | (refine wpM_val1 Ext.refl rfl rfl ?_)); apply Exists.intro; refine ⟨?_, ?_⟩
    · intro a w' hR h1
      have e1 : _ = _ := h1
      have hl0 := hR.cell y0
      have hl1 := hR.cell y1
      go_simp
      rfl
    first | (refine wpM_call0 (fun v _ => v = .bool false) rfl (by first | exact mono_eq | exact (fun _ _ _ ⟨n, h1, h2, h3⟩ k => ⟨n, h1, h2, h3.ext k⟩) | exact (fun _ _ _ h k => RB.ext h k) | exact (fun _ _ _ h k => OB.ext h k) | exact (fun _ _ _ h k => Rd.ext h k) | exact (fun _ _ _ h k => ownsRow_ext h k) | exact (fun _ _ _ h k => RB.extC h k) | exact (fun _ _ _ h k => FB.extC h k) | exact (fun _ _ _ h k => Rd.extC h k) | exact (fun _ _ _ h k => RP.ext h k) | exact (fun _ _ _ h k => RE.ext h k)) ?_ ?_) | (refine wpM_call1 (fun v _ => v = .bool false) rfl rfl (by first | exact mono_eq | exact (fun _ _ _ ⟨n, h1, h2, h3⟩ k => ⟨n, h1, h2, h3.ext k⟩) | exact (fun _ _ _ h k => RB.ext h k) | exact (fun _ _ _ h k => OB.ext h k) | exact (fun _ _ _ h k => Rd.ext h k) | exact (fun _ _ _ h k => ownsRow_ext h k) | exact (fun _ _ _ h k => RB.extC h k) | exact (fun _ _ _ h k => FB.extC h k) | exact (fun _ _ _ h k => Rd.extC h k) | exact (fun _ _ _ h k => RP.ext h k) | exact (fun _ _ _ h k => RE.ext h k)) ?_ ?_)
    · intro a w' hR h1 K hK
      have e1 : _ = _ := h1
      go_simp
      refine (HRC.out w' (HV.out.ext hR)).mono ?_
      rintro e w2 ⟨rfl, he⟩
      exact hK _ _ he rfl
    repeat (first | ((first | (refine wpM_move00 Ext.refl rfl rfl rfl ?_) | (refine wpM_move01 Ext.refl rfl rfl rfl rfl ?_)); apply Exists.intro; refine ⟨?_, ?_⟩; · (go_simp; rfl)) | (first | (refine wpM_movek0 Ext.refl rfl rfl rfl ?_) | (refine wpM_movek1 Ext.refl rfl rfl rfl rfl ?_)) | ((first | (refine wpM_val0 Ext.refl rfl ?_) | (refine wpM_val1 Ext.refl rfl rfl ?_)); apply Exists.intro; refine ⟨?_, ?_⟩; · (intro a w' hR; intro h1; (first | (have e1 : _ = _ := h1) | skip); intro h2; (first | (have e2 : _ = _ := h2) | skip); go_simp; rfl)) | ((first | (refine wpM_val0 Ext.refl rfl ?_) | (refine wpM_val1 Ext.refl rfl rfl ?_)); apply Exists.intro; refine ⟨?_, ?_⟩; · (intro a w' hR; intro h1; (first | (have e1 : _ = _ := h1) | skip); go_simp; rfl)) | ((first | (refine wpM_val0 Ext.refl rfl ?_) | (refine wpM_val1 Ext.refl rfl rfl ?_)); apply Exists.intro; refine ⟨?_, ?_⟩; · (intro a w' hR; go_simp; rfl)) | ((first | (refine wpM_val0 Ext.refl rfl ?_) | (refine wpM_val1 Ext.refl rfl rfl ?_)); apply Exists.intro; refine ⟨?_, ?_⟩; · (intro a w' hR; intro h1; (first | (have e1 : _ = _ := h1) | skip); intro h2; (first | (have e2 : _ = _ := h2) | skip); intro h3; (first | (have e3 : _ = _ := h3) | skip); go_simp; rfl)) | (refine wpM_skip1 rfl ?_) | (refine wpM_skipU rfl ?_))
    refine wpM_done ?_
    intro w4 hx4
    iterate 18 (rintro _ rfl)
    dsimp only [FinV]
    go_simp
    clear y0 y1 z0 z1
    replace HX := Lib.hid (HX.out.trans hx4)
    go_wp2
    go_ret
    exact ⟨rfl, HX.out⟩
  | true =>
    have HC := Lib.hid (HPO.out hok _ HV.out)
    replace HRP := Lib.hid (HRP.out hok)
    replace HGG := Lib.hid (HGG.out hok (HLEN.out hok))
    replace HR2 := Lib.hid (HR2.out hok)
    rw [hok] at HRC
    clear hok HPB HPO HLEN
    generalize grL (l, out) = bl at *
    go_wp2_with fail
    refine HC.out.mono ?_
    rintro e w3 ⟨u3, rfl, hub, he⟩
    obtain ⟨A3, c3, rfl⟩ := RB.form hub
    have HU := Lib.hid hub
    replace HX := Lib.hid (HX.out.trans he)
    replace HV := Lib.hid (HV.out.ext he)
    replace HB := Lib.hid (HB.out.ext he)
    replace HV' := Lib.hid (HV'.out.ext he)
    replace HB' := Lib.hid (HB'.out.ext he)
    clear he y0 y1 HC hub
    go_upto_region 4 with fail
    have y0 : w3.cell? ⟨p, 0, none⟩ = some (.slice A l.length c) := HB.out.cell 0
    have y1 : w3.cell? ⟨p, 1, none⟩ = some (.int .i64 out) := HB.out.cell 1
    have z0 : w3.cell? ⟨p + 1, 0, none⟩ = some (.slice A' l'.length c') := HB'.out.cell 0
    have z1 : w3.cell? ⟨p + 1, 1, none⟩ = some (.int .i64 out') := HB'.out.cell 1
    have hbb0 : (bs != bs) = false := by simp
    refine wp_region_ext (by kernel_rfl) (by rfl) (by rfl) (by kernel_rfl) ?_
    first | (refine wpM_call0 (fun v _ => v = .bool true) rfl (by first | exact mono_eq | exact (fun _ _ _ ⟨n, h1, h2, h3⟩ k => ⟨n, h1, h2, h3.ext k⟩) | exact (fun _ _ _ h k => RB.ext h k) | exact (fun _ _ _ h k => OB.ext h k) | exact (fun _ _ _ h k => Rd.ext h k) | exact (fun _ _ _ h k => ownsRow_ext h k) | exact (fun _ _ _ h k => RB.extC h k) | exact (fun _ _ _ h k => FB.extC h k) | exact (fun _ _ _ h k => Rd.extC h k) | exact (fun _ _ _ h k => RP.ext h k) | exact (fun _ _ _ h k => RE.ext h k)) ?_ ?_) | (refine wpM_call1 (fun v _ => v = .bool true) rfl rfl (by first | exact mono_eq | exact (fun _ _ _ ⟨n, h1, h2, h3⟩ k => ⟨n, h1, h2, h3.ext k⟩) | exact (fun _ _ _ h k => RB.ext h k) | exact (fun _ _ _ h k => OB.ext h k) | exact (fun _ _ _ h k => Rd.ext h k) | exact (fun _ _ _ h k => ownsRow_ext h k) | exact (fun _ _ _ h k => RB.extC h k) | exact (fun _ _ _ h k => FB.extC h k) | exact (fun _ _ _ h k => Rd.extC h k) | exact (fun _ _ _ h k => RP.ext h k) | exact (fun _ _ _ h k => RE.ext h k)) ?_ ?_)
    · intro a w' hR  K hK
      go_simp
      refine (HL.out w').mono ?_
      rintro e w2 ⟨rfl, he⟩
      exact hK _ _ he rfl
    repeat (first | ((first | (refine wpM_move00 Ext.refl rfl rfl rfl ?_) | (refine wpM_move01 Ext.refl rfl rfl rfl rfl ?_)); apply Exists.intro; refine ⟨?_, ?_⟩; · (go_simp; rfl)) | (first | (refine wpM_movek0 Ext.refl rfl rfl rfl ?_) | (refine wpM_movek1 Ext.refl rfl rfl rfl rfl ?_)) | ((first | (refine wpM_val0 Ext.refl rfl ?_) | (refine wpM_val1 Ext.refl rfl rfl ?_)); apply Exists.intro; refine ⟨?_, ?_⟩; · (intro a w' hR; intro h1; (first | (have e1 : _ = _ := h1) | skip); intro h2; (first | (have e2 : _ = _ := h2) | skip); go_simp; rfl)) | ((first | (refine wpM_val0 Ext.refl rfl ?_) | (refine wpM_val1 Ext.refl rfl rfl ?_)); apply Exists.intro; refine ⟨?_, ?_⟩; · (intro a w' hR; intro h1; (first | (have e1 : _ = _ := h1) | skip); go_simp; rfl)) | ((first | (refine wpM_val0 Ext.refl rfl ?_) | (refine wpM_val1 Ext.refl rfl rfl ?_)); apply Exists.intro; refine ⟨?_, ?_⟩; · (intro a w' hR; go_simp; rfl)) | ((first | (refine wpM_val0 Ext.refl rfl ?_) | (refine wpM_val1 Ext.refl rfl rfl ?_)); apply Exists.intro; refine ⟨?_, ?_⟩; · (intro a w' hR; intro h1; (first | (have e1 : _ = _ := h1) | skip); intro h2; (first | (have e2 : _ = _ := h2) | skip); intro h3; (first | (have e3 : _ = _ := h3) | skip); go_simp; rfl)) | (refine wpM_skip1 rfl ?_) | (refine wpM_skipU rfl ?_))
    (first | (refine wpM_val0 Ext.refl rfl ?_) | (refine wpM_val1 Ext.refl rfl rfl ?_)); apply Exists.intro; refine ⟨?_, ?_⟩
    · intro a w' hR h1
      have e1 : _ = _ := h1
      have hl0 := hR.cell y0
      have hl1 := hR.cell y1
      go_simp
      rfl
    (first | (refine wpM_val0 Ext.refl rfl ?_) | (refine wpM_val1 Ext.refl rfl rfl ?_)); apply Exists.intro; refine ⟨?_, ?_⟩
    · intro a w' hR h1
      have e1 : _ = _ := h1
      have hl0 := hR.cell z0
      have hl1 := hR.cell z1
      go_simp
      rfl
    first | (refine wpM_call0 (fun v _ => v = .bool bs) rfl (by first | exact mono_eq | exact (fun _ _ _ ⟨n, h1, h2, h3⟩ k => ⟨n, h1, h2, h3.ext k⟩) | exact (fun _ _ _ h k => RB.ext h k) | exact (fun _ _ _ h k => OB.ext h k) | exact (fun _ _ _ h k => Rd.ext h k) | exact (fun _ _ _ h k => ownsRow_ext h k) | exact (fun _ _ _ h k => RB.extC h k) | exact (fun _ _ _ h k => FB.extC h k) | exact (fun _ _ _ h k => Rd.extC h k) | exact (fun _ _ _ h k => RP.ext h k) | exact (fun _ _ _ h k => RE.ext h k)) ?_ ?_) | (refine wpM_call1 (fun v _ => v = .bool bs) rfl rfl (by first | exact mono_eq | exact (fun _ _ _ ⟨n, h1, h2, h3⟩ k => ⟨n, h1, h2, h3.ext k⟩) | exact (fun _ _ _ h k => RB.ext h k) | exact (fun _ _ _ h k => OB.ext h k) | exact (fun _ _ _ h k => Rd.ext h k) | exact (fun _ _ _ h k => ownsRow_ext h k) | exact (fun _ _ _ h k => RB.extC h k) | exact (fun _ _ _ h k => FB.extC h k) | exact (fun _ _ _ h k => Rd.extC h k) | exact (fun _ _ _ h k => RP.ext h k) | exact (fun _ _ _ h k => RE.ext h k)) ?_ ?_)
    · intro a w' hR h1 h2 K hK
      have e1 : _ = _ := h1
      have e2 : _ = _ := h2
      go_simp
      refine (HGS.out w' (HV.out.ext hR) (HV'.out.ext hR)).mono ?_
      rintro e w2 ⟨bb, rfl, hbb, he⟩
      exact hK _ _ he (by rw [show bb = bs from Bool.eq_iff_iff.2 (hbb.trans HBS.out.symm)])
    (first | (refine wpM_val0 Ext.refl rfl ?_) | (refine wpM_val1 Ext.refl rfl rfl ?_)); apply Exists.intro; refine ⟨?_, ?_⟩
    · intro a w' hR h1
      have e1 : _ = _ := h1
      have hl0 := hR.cell y0
      have hl1 := hR.cell y1
      go_simp
      rfl
    (first | (refine wpM_val0 Ext.refl rfl ?_) | (refine wpM_val1 Ext.refl rfl rfl ?_)); apply Exists.intro; refine ⟨?_, ?_⟩
    · intro a w' hR h1
      have e1 : _ = _ := h1
      have hl0 := hR.cell z0
      have hl1 := hR.cell z1
      go_simp
      rfl
    first | (refine wpM_call0 (fun v _ => v = .bool bs) rfl (by first | exact mono_eq | exact (fun _ _ _ ⟨n, h1, h2, h3⟩ k => ⟨n, h1, h2, h3.ext k⟩) | exact (fun _ _ _ h k => RB.ext h k) | exact (fun _ _ _ h k => OB.ext h k) | exact (fun _ _ _ h k => Rd.ext h k) | exact (fun _ _ _ h k => ownsRow_ext h k) | exact (fun _ _ _ h k => RB.extC h k) | exact (fun _ _ _ h k => FB.extC h k) | exact (fun _ _ _ h k => Rd.extC h k) | exact (fun _ _ _ h k => RP.ext h k) | exact (fun _ _ _ h k => RE.ext h k)) ?_ ?_) | (refine wpM_call1 (fun v _ => v = .bool bs) rfl rfl (by first | exact mono_eq | exact (fun _ _ _ ⟨n, h1, h2, h3⟩ k => ⟨n, h1, h2, h3.ext k⟩) | exact (fun _ _ _ h k => RB.ext h k) | exact (fun _ _ _ h k => OB.ext h k) | exact (fun _ _ _ h k => Rd.ext h k) | exact (fun _ _ _ h k => ownsRow_ext h k) | exact (fun _ _ _ h k => RB.extC h k) | exact (fun _ _ _ h k => FB.extC h k) | exact (fun _ _ _ h k => Rd.extC h k) | exact (fun _ _ _ h k => RP.ext h k) | exact (fun _ _ _ h k => RE.ext h k)) ?_ ?_)
    · intro a w' hR h1 h2 K hK
      have e1 : _ = _ := h1
      have e2 : _ = _ := h2
      go_simp
      refine (HRS.out w' (HV.out.ext hR) (HV'.out.ext hR)).mono ?_
      rintro e w2 ⟨bb, rfl, hbb, he⟩
      exact hK _ _ he (by rw [show bb = bs from Bool.eq_iff_iff.2 (hbb.trans HBS.out.symm)])
    repeat (first | ((first | (refine wpM_move00 Ext.refl rfl rfl rfl ?_) | (refine wpM_move01 Ext.refl rfl rfl rfl rfl ?_)); apply Exists.intro; refine ⟨?_, ?_⟩; · (go_simp; rfl)) | (first | (refine wpM_movek0 Ext.refl rfl rfl rfl ?_) | (refine wpM_movek1 Ext.refl rfl rfl rfl rfl ?_)) | ((first | (refine wpM_val0 Ext.refl rfl ?_) | (refine wpM_val1 Ext.refl rfl rfl ?_)); apply Exists.intro; refine ⟨?_, ?_⟩; · (intro a w' hR; intro h1; (first | (have e1 : _ = _ := h1) | skip); intro h2; (first | (have e2 : _ = _ := h2) | skip); go_simp; rfl)) | ((first | (refine wpM_val0 Ext.refl rfl ?_) | (refine wpM_val1 Ext.refl rfl rfl ?_)); apply Exists.intro; refine ⟨?_, ?_⟩; · (intro a w' hR; intro h1; (first | (have e1 : _ = _ := h1) | skip); go_simp; rfl)) | ((first | (refine wpM_val0 Ext.refl rfl ?_) | (refine wpM_val1 Ext.refl rfl rfl ?_)); apply Exists.intro; refine ⟨?_, ?_⟩; · (intro a w' hR; go_simp; rfl)) | ((first | (refine wpM_val0 Ext.refl rfl ?_) | (refine wpM_val1 Ext.refl rfl rfl ?_)); apply Exists.intro; refine ⟨?_, ?_⟩; · (intro a w' hR; intro h1; (first | (have e1 : _ = _ := h1) | skip); intro h2; (first | (have e2 : _ = _ := h2) | skip); intro h3; (first | (have e3 : _ = _ := h3) | skip); go_simp; rfl)) | (refine wpM_skip1 rfl ?_) | (refine wpM_skipU rfl ?_))
    (first | (refine wpM_val0 Ext.refl rfl ?_) | (refine wpM_val1 Ext.refl rfl rfl ?_)); apply Exists.intro; refine ⟨?_, ?_⟩
    · intro a w' hR h1
      have e1 : _ = _ := h1
      have hl0 := hR.cell y0
      have hl1 := hR.cell y1
      go_simp
      rfl
    first | (refine wpM_call0 (fun v _ => v = .bool true) rfl (by first | exact mono_eq | exact (fun _ _ _ ⟨n, h1, h2, h3⟩ k => ⟨n, h1, h2, h3.ext k⟩) | exact (fun _ _ _ h k => RB.ext h k) | exact (fun _ _ _ h k => OB.ext h k) | exact (fun _ _ _ h k => Rd.ext h k) | exact (fun _ _ _ h k => ownsRow_ext h k) | exact (fun _ _ _ h k => RB.extC h k) | exact (fun _ _ _ h k => FB.extC h k) | exact (fun _ _ _ h k => Rd.extC h k) | exact (fun _ _ _ h k => RP.ext h k) | exact (fun _ _ _ h k => RE.ext h k)) ?_ ?_) | (refine wpM_call1 (fun v _ => v = .bool true) rfl rfl (by first | exact mono_eq | exact (fun _ _ _ ⟨n, h1, h2, h3⟩ k => ⟨n, h1, h2, h3.ext k⟩) | exact (fun _ _ _ h k => RB.ext h k) | exact (fun _ _ _ h k => OB.ext h k) | exact (fun _ _ _ h k => Rd.ext h k) | exact (fun _ _ _ h k => ownsRow_ext h k) | exact (fun _ _ _ h k => RB.extC h k) | exact (fun _ _ _ h k => FB.extC h k) | exact (fun _ _ _ h k => Rd.extC h k) | exact (fun _ _ _ h k => RP.ext h k) | exact (fun _ _ _ h k => RE.ext h k)) ?_ ?_)
    · intro a w' hR h1 K hK
      have e1 : _ = _ := h1
      go_simp
      refine (HRC.out w' (HV.out.ext hR)).mono ?_
      rintro e w2 ⟨rfl, he⟩
      exact hK _ _ he rfl
    repeat (first | ((first | (refine wpM_move00 Ext.refl rfl rfl rfl ?_) | (refine wpM_move01 Ext.refl rfl rfl rfl rfl ?_)); apply Exists.intro; refine ⟨?_, ?_⟩; · (go_simp; rfl)) | (first | (refine wpM_movek0 Ext.refl rfl rfl rfl ?_) | (refine wpM_movek1 Ext.refl rfl rfl rfl rfl ?_)) | ((first | (refine wpM_val0 Ext.refl rfl ?_) | (refine wpM_val1 Ext.refl rfl rfl ?_)); apply Exists.intro; refine ⟨?_, ?_⟩; · (intro a w' hR; intro h1; (first | (have e1 : _ = _ := h1) | skip); intro h2; (first | (have e2 : _ = _ := h2) | skip); go_simp; rfl)) | ((first | (refine wpM_val0 Ext.refl rfl ?_) | (refine wpM_val1 Ext.refl rfl rfl ?_)); apply Exists.intro; refine ⟨?_, ?_⟩; · (intro a w' hR; intro h1; (first | (have e1 : _ = _ := h1) | skip); go_simp; rfl)) | ((first | (refine wpM_val0 Ext.refl rfl ?_) | (refine wpM_val1 Ext.refl rfl rfl ?_)); apply Exists.intro; refine ⟨?_, ?_⟩; · (intro a w' hR; go_simp; rfl)) | ((first | (refine wpM_val0 Ext.refl rfl ?_) | (refine wpM_val1 Ext.refl rfl rfl ?_)); apply Exists.intro; refine ⟨?_, ?_⟩; · (intro a w' hR; intro h1; (first | (have e1 : _ = _ := h1) | skip); intro h2; (first | (have e2 : _ = _ := h2) | skip); intro h3; (first | (have e3 : _ = _ := h3) | skip); go_simp; rfl)) | (refine wpM_skip1 rfl ?_) | (refine wpM_skipU rfl ?_))
    refine wpM_done ?_
    intro w4 hx4
    iterate 18 (rintro _ rfl)
    dsimp only [FinV]
    go_simp
    clear y0 y1 z0 z1
    replace HX := Lib.hid (HX.out.trans hx4)
    replace HV := Lib.hid (HV.out.ext hx4)
    replace HB := Lib.hid (HB.out.ext hx4)
    replace HU := Lib.hid (HU.out.ext hx4)
    clear hx4 HV' HB' HGS HRS HRC
    have HC := Lib.hid (HGG.out _ _ HU.out)
    go_wp2_with fail
    refine HC.out.mono ?_
    rintro e w5 ⟨u5, rfl, hn5, he⟩
    obtain ⟨A5, c5, rfl⟩ := hn5.form
    have hal := (Ext.refl w5).alloc (gCs (.slice A5 l.length c5) out)
    have HK := Lib.hid (Blk.new w5 24 #[.slice A5 l.length c5, .int .i64 out])
    have HV5 := Lib.hid (hn5.ext hal)
    replace HX := Lib.hid ((HX.out.trans he).trans hal)
    replace HV := Lib.hid ((HV.out.ext he).ext hal)
    replace HB := Lib.hid ((HB.out.ext he).ext hal)
    replace HU := Lib.hid ((HU.out.ext he).ext hal)
    clear he hal HC hn5 HGG
    go_upto_region 9 with fail
    generalize w5.heap.size = q at *
    generalize w5.alloc (gCs (.slice A5 l.length c5) out) = w6 at *
    have y0 : w6.cell? ⟨p, 0, none⟩ = some (.slice A l.length c) := HB.out.cell 0
    have y1 : w6.cell? ⟨p, 1, none⟩ = some (.int .i64 out) := HB.out.cell 1
    have z0 : w6.cell? ⟨q, 0, none⟩ = some (.slice A5 l.length c5) := HK.out.cell 0
    have z1 : w6.cell? ⟨q, 1, none⟩ = some (.int .i64 out) := HK.out.cell 1
    refine wp_region_ext (by kernel_rfl) (by rfl) (by rfl) (by kernel_rfl) ?_
    repeat (first | ((first | (refine wpM_move00 Ext.refl rfl rfl rfl ?_) | (refine wpM_move01 Ext.refl rfl rfl rfl rfl ?_)); apply Exists.intro; refine ⟨?_, ?_⟩; · (go_simp; rfl)) | (first | (refine wpM_movek0 Ext.refl rfl rfl rfl ?_) | (refine wpM_movek1 Ext.refl rfl rfl rfl rfl ?_)) | ((first | (refine wpM_val0 Ext.refl rfl ?_) | (refine wpM_val1 Ext.refl rfl rfl ?_)); apply Exists.intro; refine ⟨?_, ?_⟩; · (intro a w' hR; intro h1; (first | (have e1 : _ = _ := h1) | skip); intro h2; (first | (have e2 : _ = _ := h2) | skip); go_simp; rfl)) | ((first | (refine wpM_val0 Ext.refl rfl ?_) | (refine wpM_val1 Ext.refl rfl rfl ?_)); apply Exists.intro; refine ⟨?_, ?_⟩; · (intro a w' hR; intro h1; (first | (have e1 : _ = _ := h1) | skip); go_simp; rfl)) | ((first | (refine wpM_val0 Ext.refl rfl ?_) | (refine wpM_val1 Ext.refl rfl rfl ?_)); apply Exists.intro; refine ⟨?_, ?_⟩; · (intro a w' hR; go_simp; rfl)) | ((first | (refine wpM_val0 Ext.refl rfl ?_) | (refine wpM_val1 Ext.refl rfl rfl ?_)); apply Exists.intro; refine ⟨?_, ?_⟩; · (intro a w' hR; intro h1; (first | (have e1 : _ = _ := h1) | skip); intro h2; (first | (have e2 : _ = _ := h2) | skip); intro h3; (first | (have e3 : _ = _ := h3) | skip); go_simp; rfl)) | (refine wpM_skip1 rfl ?_) | (refine wpM_skipU rfl ?_))
    (first | (refine wpM_val0 Ext.refl rfl ?_) | (refine wpM_val1 Ext.refl rfl rfl ?_)); apply Exists.intro; refine ⟨?_, ?_⟩
    · intro a w' hR h1
      have e1 : _ = _ := h1
      have hs := strB (HU.out.ext hR)
      go_simp
      rfl
    (first | (refine wpM_val0 Ext.refl rfl ?_) | (refine wpM_val1 Ext.refl rfl rfl ?_)); apply Exists.intro; refine ⟨?_, ?_⟩
    · intro a w' hR h1
      have e1 : _ = _ := h1
      have hl0 := hR.cell y0
      have hl1 := hR.cell y1
      go_simp
      rfl
    first | (refine wpM_call0 (fun v w2 => RB w2 v bl) rfl (by first | exact mono_eq | exact (fun _ _ _ ⟨n, h1, h2, h3⟩ k => ⟨n, h1, h2, h3.ext k⟩) | exact (fun _ _ _ h k => RB.ext h k) | exact (fun _ _ _ h k => OB.ext h k) | exact (fun _ _ _ h k => Rd.ext h k) | exact (fun _ _ _ h k => ownsRow_ext h k) | exact (fun _ _ _ h k => RB.extC h k) | exact (fun _ _ _ h k => FB.extC h k) | exact (fun _ _ _ h k => Rd.extC h k) | exact (fun _ _ _ h k => RP.ext h k) | exact (fun _ _ _ h k => RE.ext h k)) ?_ ?_) | (refine wpM_call1 (fun v w2 => RB w2 v bl) rfl rfl (by first | exact mono_eq | exact (fun _ _ _ ⟨n, h1, h2, h3⟩ k => ⟨n, h1, h2, h3.ext k⟩) | exact (fun _ _ _ h k => RB.ext h k) | exact (fun _ _ _ h k => OB.ext h k) | exact (fun _ _ _ h k => Rd.ext h k) | exact (fun _ _ _ h k => ownsRow_ext h k) | exact (fun _ _ _ h k => RB.extC h k) | exact (fun _ _ _ h k => FB.extC h k) | exact (fun _ _ _ h k => Rd.extC h k) | exact (fun _ _ _ h k => RP.ext h k) | exact (fun _ _ _ h k => RE.ext h k)) ?_ ?_)
    · intro a w' hR h1 K hK
      have e1 : _ = _ := h1
      go_simp
      refine (HRP.out w' (HV.out.ext hR)).mono ?_
      rintro e w2 ⟨v, rfl, ho, he⟩
      exact hK _ _ he ho
    (first | (refine wpM_val0 Ext.refl rfl ?_) | (refine wpM_val1 Ext.refl rfl rfl ?_)); apply Exists.intro; refine ⟨?_, ?_⟩
    · intro a w' hR h1
      obtain ⟨x, ex, fx⟩ : ∃ x, a.tmps.getD 56 undef = x ∧ (fun v w2 => RB w2 v bl) x w' := ⟨_, rfl, h1⟩
      have hs := strB (fx)
      go_simp
      rfl
    repeat (first | ((first | (refine wpM_move00 Ext.refl rfl rfl rfl ?_) | (refine wpM_move01 Ext.refl rfl rfl rfl rfl ?_)); apply Exists.intro; refine ⟨?_, ?_⟩; · (go_simp; rfl)) | (first | (refine wpM_movek0 Ext.refl rfl rfl rfl ?_) | (refine wpM_movek1 Ext.refl rfl rfl rfl rfl ?_)) | ((first | (refine wpM_val0 Ext.refl rfl ?_) | (refine wpM_val1 Ext.refl rfl rfl ?_)); apply Exists.intro; refine ⟨?_, ?_⟩; · (intro a w' hR; intro h1; (first | (have e1 : _ = _ := h1) | skip); intro h2; (first | (have e2 : _ = _ := h2) | skip); go_simp; rfl)) | ((first | (refine wpM_val0 Ext.refl rfl ?_) | (refine wpM_val1 Ext.refl rfl rfl ?_)); apply Exists.intro; refine ⟨?_, ?_⟩; · (intro a w' hR; intro h1; (first | (have e1 : _ = _ := h1) | skip); go_simp; rfl)) | ((first | (refine wpM_val0 Ext.refl rfl ?_) | (refine wpM_val1 Ext.refl rfl rfl ?_)); apply Exists.intro; refine ⟨?_, ?_⟩; · (intro a w' hR; go_simp; rfl)) | ((first | (refine wpM_val0 Ext.refl rfl ?_) | (refine wpM_val1 Ext.refl rfl rfl ?_)); apply Exists.intro; refine ⟨?_, ?_⟩; · (intro a w' hR; intro h1; (first | (have e1 : _ = _ := h1) | skip); intro h2; (first | (have e2 : _ = _ := h2) | skip); intro h3; (first | (have e3 : _ = _ := h3) | skip); go_simp; rfl)) | (refine wpM_skip1 rfl ?_) | (refine wpM_skipU rfl ?_))
    (first | (refine wpM_val0 Ext.refl rfl ?_) | (refine wpM_val1 Ext.refl rfl rfl ?_)); apply Exists.intro; refine ⟨?_, ?_⟩
    · intro a w' hR h1
      have e1 : _ = _ := h1
      have hl0 := hR.cell z0
      have hl1 := hR.cell z1
      go_simp
      rfl
    (first | (refine wpM_val0 Ext.refl rfl ?_) | (refine wpM_val1 Ext.refl rfl rfl ?_)); apply Exists.intro; refine ⟨?_, ?_⟩
    · intro a w' hR h1
      have e1 : _ = _ := h1
      have hl0 := hR.cell y0
      have hl1 := hR.cell y1
      go_simp
      rfl
    first | (refine wpM_call0 (fun v _ => v = .bool true) rfl (by first | exact mono_eq | exact (fun _ _ _ ⟨n, h1, h2, h3⟩ k => ⟨n, h1, h2, h3.ext k⟩) | exact (fun _ _ _ h k => RB.ext h k) | exact (fun _ _ _ h k => OB.ext h k) | exact (fun _ _ _ h k => Rd.ext h k) | exact (fun _ _ _ h k => ownsRow_ext h k) | exact (fun _ _ _ h k => RB.extC h k) | exact (fun _ _ _ h k => FB.extC h k) | exact (fun _ _ _ h k => Rd.extC h k) | exact (fun _ _ _ h k => RP.ext h k) | exact (fun _ _ _ h k => RE.ext h k)) ?_ ?_) | (refine wpM_call1 (fun v _ => v = .bool true) rfl rfl (by first | exact mono_eq | exact (fun _ _ _ ⟨n, h1, h2, h3⟩ k => ⟨n, h1, h2, h3.ext k⟩) | exact (fun _ _ _ h k => RB.ext h k) | exact (fun _ _ _ h k => OB.ext h k) | exact (fun _ _ _ h k => Rd.ext h k) | exact (fun _ _ _ h k => ownsRow_ext h k) | exact (fun _ _ _ h k => RB.extC h k) | exact (fun _ _ _ h k => FB.extC h k) | exact (fun _ _ _ h k => Rd.extC h k) | exact (fun _ _ _ h k => RP.ext h k) | exact (fun _ _ _ h k => RE.ext h k)) ?_ ?_)
    · intro a w' hR h1 h2 K hK
      have e1 : _ = _ := h1
      have e2 : _ = _ := h2
      go_simp
      refine (HR2.out _ w' (HV5.out.ext hR) (HV.out.ext hR)).mono ?_
      rintro e w2 ⟨bb, rfl, hbb, he⟩
      exact hK _ _ he (by rw [hbb.2 rfl])
    repeat (first | ((first | (refine wpM_move00 Ext.refl rfl rfl rfl ?_) | (refine wpM_move01 Ext.refl rfl rfl rfl rfl ?_)); apply Exists.intro; refine ⟨?_, ?_⟩; · (go_simp; rfl)) | (first | (refine wpM_movek0 Ext.refl rfl rfl rfl ?_) | (refine wpM_movek1 Ext.refl rfl rfl rfl rfl ?_)) | ((first | (refine wpM_val0 Ext.refl rfl ?_) | (refine wpM_val1 Ext.refl rfl rfl ?_)); apply Exists.intro; refine ⟨?_, ?_⟩; · (intro a w' hR; intro h1; (first | (have e1 : _ = _ := h1) | skip); intro h2; (first | (have e2 : _ = _ := h2) | skip); go_simp; rfl)) | ((first | (refine wpM_val0 Ext.refl rfl ?_) | (refine wpM_val1 Ext.refl rfl rfl ?_)); apply Exists.intro; refine ⟨?_, ?_⟩; · (intro a w' hR; intro h1; (first | (have e1 : _ = _ := h1) | skip); go_simp; rfl)) | ((first | (refine wpM_val0 Ext.refl rfl ?_) | (refine wpM_val1 Ext.refl rfl rfl ?_)); apply Exists.intro; refine ⟨?_, ?_⟩; · (intro a w' hR; go_simp; rfl)) | ((first | (refine wpM_val0 Ext.refl rfl ?_) | (refine wpM_val1 Ext.refl rfl rfl ?_)); apply Exists.intro; refine ⟨?_, ?_⟩; · (intro a w' hR; intro h1; (first | (have e1 : _ = _ := h1) | skip); intro h2; (first | (have e2 : _ = _ := h2) | skip); intro h3; (first | (have e3 : _ = _ := h3) | skip); go_simp; rfl)) | (refine wpM_skip1 rfl ?_) | (refine wpM_skipU rfl ?_))
    refine wpM_done ?_
    intro w7 hx7
    iterate 3 (rintro _ rfl)
    rintro v56 h56
    iterate 12 (rintro _ rfl)
    dsimp only [FinV]
    go_simp
    clear y0 y1 z0 z1
    replace HX := Lib.hid (HX.out.trans hx7)
    go_wp2
    go_ret
    exact ⟨rfl, HX.out⟩
theorem graphCodes_law (w : World) (v : Value) (x : GArg) (hv : v = gAg x.1.1 x.2.2 ∧ NodesR x.1.2 w x.1.1 x.2.1) (v' : Value) (x' : GArg) (hv' : v' = gAg x'.1.1 x'.2.2 ∧ NodesR x'.1.2 w x'.1.1 x'.2.1) :
    Calls Try.prog 5 #[v, v'] w fun e w' => e = .returned (.bool true) ∧ Ext w w' := by
  rw [hv.1, hv'.1]
  cases h1 : largeB x.2.1 with
  | true => exact graphCodes_large _ _ _ _ x.2 x'.2 w hv.2 hv'.2 (.inl h1)
  | false =>
    cases h2 : largeB x'.2.1 with
    | true => exact graphCodes_large _ _ _ _ x.2 x'.2 w hv.2 hv'.2 (.inr ⟨h1, h2⟩)
    | false => exact graphCodes_small _ _ _ _ x.2 x'.2 w hv.2 hv'.2 h1 h2
end Go.Proofs.Ytpmikcklkddocaa
