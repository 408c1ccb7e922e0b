/-
  PlRef, PlRef2, PlEq2, packed: what the claim needs of them.
-/
import Derived.Test.YtcacicgkebcdkaaPa35
import Derived.Test.YtcacicgkebcdkaaPa27
import Derived.BigRegion
import Derived.Test.YtcacicgkebcdkaaPa17
import Derived.Test.YtcacicgkebcdkaaPa22
namespace Go.Proofs.Ytcacicgkebcdkaa
open Go.RowKit Go.Ox Go.Ox.Gr Mo
set_option linter.unusedVariables false
set_option linter.unusedSimpArgs false
attribute [local irreducible] RE OE NodesR
theorem any_hit {q : Pl.P2} {us : List Po} {k : Nat} (h : k < us.length) (e : us[k].1 = q) : us.any (fun u => u.1 == q) = true := List.any_eq_true.2 ⟨us[k], List.getElem_mem h, by simpa using e⟩
set_option maxRecDepth 100000 in
set_option maxHeartbeats 8000000 in
theorem rarc_any (d : Nat) (v : Value) (g : G) (p q : Pl.P2) (w : World) (hv : NodesR d w v g.1) (hok : gOk g = true) (hp : p ∈ gPl g) :
    Calls Try.prog 40 #[gAg v g.2, plV p, plV q] w fun e w' => e = .returned (.tuple #[wV ((Pl.arcF g p q).getD (false, 0)), .bool (Pl.arcF g p q).isSome]) ∧ Ext w w' := by
  have hpn : (gNd g p).isSome = true := (gNd_places hok).2 (by unfold gPl at hp; rwa [if_pos hok] at hp)
  have HND := Lib.hid (fun W (h : Ext w W) => rNode_any d v g q W (hv.ext h) hok)
  have HUS := Lib.hid (fun W (h : Ext w W) => rUsers_any d v g p W (hv.ext h) (gOk_Lk (l := g.1) (out := g.2) hok) hpn)
  have HLO := Lib.hid (fun W (h : Ext w W) => rLoop_any d v g.1 g.2 W (hv.ext h) (by have := gOk_len hok; omega))
  have HUL := Lib.hid (gUs_len g p)
  have HARC := Lib.hid (show Pl.arcF g p q = if (gUs g p).any (fun u => u.1 == q) = true then some (decide (p.2 < 0) && decide (0 ≤ q.2), 0)
    else if loopAt g.1 < 0 then none
    else if p = Pl.inP g ∧ Pl.opAt g q = 10 then some (true, 0)
    else if p = Pl.lastP g ∧ (Pl.opAt g q = 10 ∨ Pl.opAt g q = 11) then some (false, 1)
    else if p = Pl.lastP g ∧ Pl.opAt g q = 9 then some (true, 0)
    else none from rfl)
  have HOP := Lib.hid (show Pl.opAt g q = ((gNd g q).getD default).op from rfl)
  obtain ⟨l, out⟩ := g
  have HLP := Lib.hid (show ¬ loopAt l < 0 → _ from fun h0 => Pl.lp_of (l := l) (out := out) (show loopB (l, out) = true from by unfold loopB; rw [hok]; simp; omega))
  have HLA := Lib.hid (show (l, out).1 = l from rfl)
  simp only at HARC HLO HND HUS hv
  generalize Pl.arcF (l, out) p q = AF at *
  generalize Pl.opAt (l, out) q = opq at *
  generalize Pl.inP (l, out) = IP at *
  generalize Pl.lastP (l, out) = LP at *
  generalize gUs (l, out) p = US at *
  generalize (gNd (l, out) q).getD default = nd at *
  generalize (gNd (l, out) q).isSome = sq at *
  generalize hla : loopAt l = la at *
  have HV0 := Lib.hid hv
  obtain ⟨A, c, rfl⟩ := hv.form
  obtain ⟨p1, p2⟩ := p
  obtain ⟨q1, q2⟩ := q
  obtain ⟨op, ins, kind, fa, a, body⟩ := nd
  have hopq : opq = op := HOP.out
  subst hopq
  have h0 : BW4 ((((w.alloc (gCs (.slice A l.length c) out)).alloc (.cells #[.int .i64 p1, .int .i64 p2] 26)).alloc (.cells #[.int .i64 q1, .int .i64 q2] 26)).alloc (.cells #[.bool false, .int .i64 0] 37)) w.heap.size (.slice A l.length c) out p1 p2 q1 q2 ∧ Ext w ((((w.alloc (gCs (.slice A l.length c) out)).alloc (.cells #[.int .i64 p1, .int .i64 p2] 26)).alloc (.cells #[.int .i64 q1, .int .i64 q2] 26)).alloc (.cells #[.bool false, .int .i64 0] 37)) := BW4.new w (.slice A l.length c) out p1 p2 q1 q2
  have HB0 := Lib.hid h0.1
  have HX0 := Lib.hid h0.2
  clear h0 hv hp hpn hok
  go_enter Try.func40, Try.ntmps40
  go_upto_region 1 with fail
  obtain ⟨n, hn⟩ : ∃ n, n = w.heap.size := ⟨_, rfl⟩
  rw [← hn] at HB0 ⊢
  have HPS := Lib.hid (show w.heap.size ≤ n + 1 + 1 + 1 from by omega)
  clear hn
  generalize (((w.alloc (gCs (.slice A l.length c) out)).alloc (.cells #[.int .i64 p1, .int .i64 p2] 26)).alloc (.cells #[.int .i64 q1, .int .i64 q2] 26)).alloc (.cells #[.bool false, .int .i64 0] 37) = w0 at *
  obtain ⟨c0, c1, c2, c3, c4, c5⟩ := HB0.out.cells
  go_wp2_with fail
  refine (HND.out w0 HX0.out).mono ?_
  rintro e w1 ⟨u9, b9, rfl, hu9, hb9, he1⟩
  simp only [Nd.op, Nd.kind, Nd.fa, Nd.a, Nd.ins, Nd.body] at hu9 hb9 ⊢
  obtain ⟨A9, c9, rfl⟩ := hu9.form
  obtain ⟨A8, c8, rfl⟩ := hb9.form
  have hx2 := he1.alloc (ndCs opq kind fa a (.slice A9 ins.length c9) (.slice A8 body.length c8))
  have HX2 := Lib.hid (HX0.out.trans hx2)
  have HB2 := Lib.hid (HB0.out.ext hx2)
  have HNB := Lib.hid (Blk.new w1 45 #[.int .i64 opq, .slice A9 ins.length c9, .int .i64 kind, .int .i64 fa, .int .i64 a, .slice A8 body.length c8])
  clear hu9 hb9 he1 hx2 c0 c1 c2 c3 c4 c5 HX0 HB0
  go_upto_region 2 with fail
  generalize w1.heap.size = q8 at *
  generalize w1.alloc (ndCs opq kind fa a (.slice A9 ins.length c9) (.slice A8 body.length c8)) = w2 at *
  obtain ⟨c0, c1, c2, c3, c4, c5⟩ := HB2.out.cells
  go_wp2_with fail
  refine (HLO.out w2 HX2.out).mono ?_
  rintro e w3 ⟨rfl, he3⟩
  have HX3 := Lib.hid (HX2.out.trans he3)
  have HB3 := Lib.hid (HB2.out.ext he3)
  have HN3 := Lib.hid (HNB.out.ext he3)
  clear he3 c0 c1 c2 c3 c4 c5 HX2 HB2 HNB
  obtain ⟨c0, c1, c2, c3, c4, c5⟩ := HB3.out.cells
  go_wp2_with fail
  refine (HUS.out w3 HX3.out).mono ?_
  rintro e w4 ⟨uu, rfl, huu, he4⟩
  obtain ⟨AU, cU, rfl⟩ := huu.form
  have HU4 := Lib.hid huu
  have HX4 := Lib.hid (HX3.out.trans he4)
  have HB4 := Lib.hid (HB3.out.ext he4)
  have HN4 := Lib.hid (HN3.out.ext he4)
  clear huu he4 c0 c1 c2 c3 c4 c5 HX3 HB3 HN3
  obtain ⟨nr, hnr⟩ : ∃ k, k = n + 1 + 1 + 1 := ⟨_, rfl⟩
  rw [← hnr] at HPS ⊢
  have HNR := Lib.hid hnr
  clear hnr
  go_wp2
  go_loopw [12] (fun iv wr => ∃ k : Nat, k ≤ US.length ∧ iv = .int .i64 (k : Int) ∧ (∀ u ∈ US.take k, ¬ u.1 = (q1, q2)) ∧ Ext w4 wr) (fun iv _ => US.length - (intOf iv).toNat)
  case atStart => exact ⟨0, Nat.zero_le _, rfl, by simp, Ext.refl _⟩
  case round =>
    obtain ⟨k, hk, rfl, hno, hext⟩ := hrel
    have HNO := Lib.hid hno
    have HE := Lib.hid hext
    have HBR := Lib.hid (HB4.out.ext hext)
    have HUR := Lib.hid (HU4.out.ext hext)
    have hkb : k ≤ 1000000 := by have := HUL.out; omega
    clear hno hext
    by_cases hlt : k < US.length
    · have r1 : (k : Int) < (US.length : Int) := by omega
      have r0 : 0 ≤ (k : Int) := by omega
      have HLT := Lib.hid hlt
      obtain ⟨bU, oU, hAU, hcU⟩ := RE.at_ HUR.out hlt
      have HTK := Lib.hid (List.take_succ_eq_append_getElem hlt)
      have HHT := Lib.hid (fun e => any_hit (q := (q1, q2)) hlt e)
      generalize US[k] = z at *
      obtain ⟨⟨z1, z2⟩, z3⟩ := z
      have y0 : wr.cell? ⟨bU, oU + k * 3, none⟩ = some (.int .i64 z1) := hcU 0 _ rfl
      have y1 : wr.cell? ⟨bU, oU + k * 3 + 1, none⟩ = some (.int .i64 z2) := hcU 1 _ rfl
      subst hAU
      have a2 : wr.cell? ⟨n + 1 + 1, 0, none⟩ = some (.int .i64 q1) := HBR.out.q.cell 0
      have a3 : wr.cell? ⟨n + 1 + 1, 1, none⟩ = some (.int .i64 q2) := HBR.out.q.cell 1
      clear hcU hlt hk
      by_cases hq : (z1, z2) = (q1, q2)
      · have hd := decide_eq_true hq
        have HR := Lib.hid (show AF = some (decide (p2 < 0) && decide (0 ≤ q2), 0) from by rw [HARC.out, if_pos (HHT.out hq)])
        have heq := eqPlD z1 z2 q1 q2
        rw [hd] at heq
        clear hq
        go_wp2
        refine wp_regionY [] [] Ext Ext (fun _ => True) (by kernel_rfl) (by rfl) (by rfl) (by kernel_rfl) (by kernel_rfl) (by kernel_rfl) (fun _ _ _ x y => x.trans y) Ext.refl (fun _ _ x => x) (Ext.refl _).drew (fun _ _ x _ => x) trivial ?_
        repeat (first | (refine wpY_move0 rfl rfl (by first | exact runs0 | exact runs1 rfl) Ext.refl rfl rfl rfl ?_; apply Exists.intro; refine ⟨?_, ?_⟩; · (go_simp; rfl)) | (refine wpY_move rfl rfl (by first | exact runs0 | exact runs1 rfl) Ext.refl rfl rfl rfl (fun _ _ _ h _ => h) ?_) | (refine wpY_val rfl rfl (by first | exact runs0 | exact runs1 rfl) Ext.refl rfl ?_; apply Exists.intro; refine ⟨?_, ?_⟩; · (intro a w' hR; intro h1; (first | (have e1 : _ = _ := h1) | skip); intro h2; (first | (have e2 : _ = _ := h2) | skip); go_simp; rfl)) | (refine wpY_val rfl rfl (by first | exact runs0 | exact runs1 rfl) Ext.refl rfl ?_; apply Exists.intro; refine ⟨?_, ?_⟩; · (intro a w' hR; intro h1; (first | (have e1 : _ = _ := h1) | skip); go_simp; rfl)) | (refine wpY_val rfl rfl (by first | exact runs0 | exact runs1 rfl) Ext.refl rfl ?_; apply Exists.intro; refine ⟨?_, ?_⟩; · (intro a w' hR; go_simp; rfl)) | (refine wpY_val rfl rfl (by first | exact runs0 | exact runs1 rfl) Ext.refl rfl ?_; apply Exists.intro; refine ⟨?_, ?_⟩; · (intro a w' hR; intro h1; (first | (have e1 : _ = _ := h1) | skip); intro h2; (first | (have e2 : _ = _ := h2) | skip); intro h3; (first | (have e3 : _ = _ := h3) | skip); go_simp; rfl)) | (refine wpY_skip rfl rfl (by first | exact .inl rfl | exact .inr rfl) ?_))
        refine wpY_val rfl rfl (by first | exact runs0 | exact runs1 rfl) Ext.refl rfl ?_; apply Exists.intro; refine ⟨?_, ?_⟩
        · intro a w' hR h1
          have e1 : _ = _ := h1
          have hl0 := hR.cell y0
          have hl1 := hR.cell y1
          go_simp
          rfl
        refine wpY_val rfl rfl (by first | exact runs0 | exact runs1 rfl) Ext.refl rfl ?_; apply Exists.intro; refine ⟨?_, ?_⟩
        · intro a w' hR h1
          have e1 : _ = _ := h1
          have hl0 := hR.cell a2
          have hl1 := hR.cell a3
          go_simp
          rfl
        refine wpY_val rfl rfl (by first | exact runs0 | exact runs1 rfl) Ext.refl rfl ?_; apply Exists.intro; refine ⟨?_, ?_⟩
        · intro a w' hR h1 h2
          have e1 : _ = _ := h1
          have e2 : _ = _ := h2
          have hq9 := heq w'
          go_simp
          rfl
        refine wpY_done ?_
        intro wz hx5 hS
        iterate 7 (rintro _ rfl)
        dsimp only [FinV]
        go_simp
        have hx5 : Ext wr wz := hx5
        have HXE := Lib.hid ((HX4.out.trans HE.out).trans hx5)
        have HBZ := Lib.hid (HBR.out.ext hx5)
        clear hx5 hS y0 y1 a2 a3 heq hd
        have c3 : wz.cell? ⟨n + 1, 1, none⟩ = some (.int .i64 p2) := HBZ.out.p.cell 1
        have c5 : wz.cell? ⟨n + 1 + 1, 1, none⟩ = some (.int .i64 q2) := HBZ.out.q.cell 1
        have HRB := Lib.hid (show Blk wz nr 37 #[.bool false, .int .i64 0] from by rw [HNR.out]; exact HBZ.out.r)
        have s0 := HRB.out.cell 0
        have s1 := HRB.out.cell 1
        have f0 := HRB.out.frozen 0
        have f1 := HRB.out.frozen 1
        have t0 := fun u => (HRB.out.set_ 0 u).frozen 1
        have t1 := fun u => (HRB.out.set_ 0 u).cell 1
        by_cases hp2 : p2 < 0
        · have e1 := decide_eq_true hp2
          by_cases hq2 : 0 ≤ q2
          · have e2 := decide_eq_true hq2
            have HR2 := Lib.hid (show AF = some (true, 0) from by rw [HR.out, e1, e2]; rfl)
            clear e1 e2
            go_wp2
            obtain ⟨y0, y1, hy⟩ := res2 HRB.out HXE.out HPS.out (.bool true) (.int .i64 0)
            generalize ((wz.setCell ⟨nr, 0, none⟩ (.bool true)).setCell ⟨nr, 1, none⟩ (.int .i64 0)) = wr9 at *
            exact bodyPost_ret (v := .tuple #[.agg #[.bool true, .int .i64 0], .bool true]) (by simp [results, Try.results40, go_sem, y0, y1]) rfl ⟨by rw [HR2.out]; rfl, hy⟩
          · have e2 := decide_eq_false hq2
            have HR2 := Lib.hid (show AF = some (false, 0) from by rw [HR.out, e1, e2]; rfl)
            clear e1 e2
            go_wp2
            obtain ⟨y0, y1, hy⟩ := res2 HRB.out HXE.out HPS.out (.bool false) (.int .i64 0)
            generalize ((wz.setCell ⟨nr, 0, none⟩ (.bool false)).setCell ⟨nr, 1, none⟩ (.int .i64 0)) = wr9 at *
            exact bodyPost_ret (v := .tuple #[.agg #[.bool false, .int .i64 0], .bool true]) (by simp [results, Try.results40, go_sem, y0, y1]) rfl ⟨by rw [HR2.out]; rfl, hy⟩
        · have e1 := decide_eq_false hp2
          have HR2 := Lib.hid (show AF = some (false, 0) from by rw [HR.out, e1]; rfl)
          clear e1
          go_wp2
          obtain ⟨y0, y1, hy⟩ := res2 HRB.out HXE.out HPS.out (.bool false) (.int .i64 0)
          generalize ((wz.setCell ⟨nr, 0, none⟩ (.bool false)).setCell ⟨nr, 1, none⟩ (.int .i64 0)) = wr9 at *
          exact bodyPost_ret (v := .tuple #[.agg #[.bool false, .int .i64 0], .bool true]) (by simp [results, Try.results40, go_sem, y0, y1]) rfl ⟨by rw [HR2.out]; rfl, hy⟩
      · have hd := decide_eq_false hq
        have HN2 := Lib.hid (show ∀ u ∈ US.take (k + 1), ¬ u.1 = (q1, q2) from by
          rw [HTK.out]
          intro u hu
          rcases List.mem_append.1 hu with e | e
          · exact HNO.out u e
          · rw [List.mem_singleton] at e; subst e; exact hq)
        have heq := eqPlD z1 z2 q1 q2
        rw [hd] at heq
        clear hq
        go_wp2
        refine wp_regionY [] [] Ext Ext (fun _ => True) (by kernel_rfl) (by rfl) (by rfl) (by kernel_rfl) (by kernel_rfl) (by kernel_rfl) (fun _ _ _ x y => x.trans y) Ext.refl (fun _ _ x => x) (Ext.refl _).drew (fun _ _ x _ => x) trivial ?_
        repeat (first | (refine wpY_move0 rfl rfl (by first | exact runs0 | exact runs1 rfl) Ext.refl rfl rfl rfl ?_; apply Exists.intro; refine ⟨?_, ?_⟩; · (go_simp; rfl)) | (refine wpY_move rfl rfl (by first | exact runs0 | exact runs1 rfl) Ext.refl rfl rfl rfl (fun _ _ _ h _ => h) ?_) | (refine wpY_val rfl rfl (by first | exact runs0 | exact runs1 rfl) Ext.refl rfl ?_; apply Exists.intro; refine ⟨?_, ?_⟩; · (intro a w' hR; intro h1; (first | (have e1 : _ = _ := h1) | skip); intro h2; (first | (have e2 : _ = _ := h2) | skip); go_simp; rfl)) | (refine wpY_val rfl rfl (by first | exact runs0 | exact runs1 rfl) Ext.refl rfl ?_; apply Exists.intro; refine ⟨?_, ?_⟩; · (intro a w' hR; intro h1; (first | (have e1 : _ = _ := h1) | skip); go_simp; rfl)) | (refine wpY_val rfl rfl (by first | exact runs0 | exact runs1 rfl) Ext.refl rfl ?_; apply Exists.intro; refine ⟨?_, ?_⟩; · (intro a w' hR; go_simp; rfl)) | (refine wpY_val rfl rfl (by first | exact runs0 | exact runs1 rfl) Ext.refl rfl ?_; apply Exists.intro; refine ⟨?_, ?_⟩; · (intro a w' hR; intro h1; (first | (have e1 : _ = _ := h1) | skip); intro h2; (first | (have e2 : _ = _ := h2) | skip); intro h3; (first | (have e3 : _ = _ := h3) | skip); go_simp; rfl)) | (refine wpY_skip rfl rfl (by first | exact .inl rfl | exact .inr rfl) ?_))
        refine wpY_val rfl rfl (by first | exact runs0 | exact runs1 rfl) Ext.refl rfl ?_; apply Exists.intro; refine ⟨?_, ?_⟩
        · intro a w' hR h1
          have e1 : _ = _ := h1
          have hl0 := hR.cell y0
          have hl1 := hR.cell y1
          go_simp
          rfl
        refine wpY_val rfl rfl (by first | exact runs0 | exact runs1 rfl) Ext.refl rfl ?_; apply Exists.intro; refine ⟨?_, ?_⟩
        · intro a w' hR h1
          have e1 : _ = _ := h1
          have hl0 := hR.cell a2
          have hl1 := hR.cell a3
          go_simp
          rfl
        refine wpY_val rfl rfl (by first | exact runs0 | exact runs1 rfl) Ext.refl rfl ?_; apply Exists.intro; refine ⟨?_, ?_⟩
        · intro a w' hR h1 h2
          have e1 : _ = _ := h1
          have e2 : _ = _ := h2
          have hq9 := heq w'
          go_simp
          rfl
        refine wpY_done ?_
        intro w5 hx5 hS
        iterate 7 (rintro _ rfl)
        dsimp only [FinV]
        go_simp
        have hx5 : Ext wr w5 := hx5
        have HX5 := Lib.hid (HE.out.trans hx5)
        clear hx5 hS y0 y1 a2 a3 heq hd
        go_wp2
        exact ⟨⟨k + 1, HLT.out, by go_num, HN2.out, HX5.out⟩, by have := HLT.out; simp [intOf]; omega⟩
    · obtain rfl : k = US.length := by omega
      have r1 : ¬ (US.length : Int) < (US.length : Int) := by omega
      have HNA := Lib.hid (show ¬ US.any (fun u => u.1 == (q1, q2)) = true from by
        rw [List.any_eq_true]
        rintro ⟨u, hu, he⟩
        have := HNO.out
        rw [List.take_length] at this
        exact this u hu (by simpa using he))
      have HAR2 := Lib.hid (HARC.out.trans (if_neg HNA.out))
      clear hk hlt HARC
      rename World => wz
      have HXE := Lib.hid (HX4.out.trans HE.out)
      have HRB := Lib.hid (show Blk wz nr 37 #[.bool false, .int .i64 0] from by rw [HNR.out]; exact HBR.out.r)
      by_cases hl0 : la < 0
      · have HR2 := Lib.hid (show AF = none from by rw [HAR2.out, if_pos hl0])
        have s0 := HRB.out.cell 0
        have s1 := HRB.out.cell 1
        have f0 := HRB.out.frozen 0
        have f1 := HRB.out.frozen 1
        have t0 := fun u => (HRB.out.set_ 0 u).frozen 1
        have t1 := fun u => (HRB.out.set_ 0 u).cell 1
        go_wp2
        obtain ⟨y0, y1, hy⟩ := res2 HRB.out HXE.out HPS.out (.bool false) (.int .i64 0)
        generalize ((wz.setCell ⟨nr, 0, none⟩ (.bool false)).setCell ⟨nr, 1, none⟩ (.int .i64 0)) = wr9 at *
        exact bodyPost_ret (v := .tuple #[.agg #[.bool false, .int .i64 0], .bool false]) (by simp [results, Try.results40, go_sem, y0, y1]) rfl ⟨by rw [HR2.out]; rfl, hy⟩
      · have HL0 := Lib.hid hl0
        obtain ⟨ln, hlnl, i0, -, hlq, hN, h9, hb1, hb2, hi, hin, hhd, hlp, hi0, hin2⟩ := HLP.out (by omega)
        have hir : ∃ ir, l[ln].ins = i0 :: ir := by
          rw [hN] at hhd
          cases hins : l[ln].ins with
          | nil => rw [hins] at hi; simp at hi
          | cons x ir => rw [hins] at hhd; exact ⟨ir, by rw [← hhd]; rfl⟩
        obtain ⟨ir, hir⟩ := hir
        have HVZ := HV0.out.ext HXE.out
        obtain ⟨bA, oA, u7, b7, hAA, e0, e1, e2, e3, e4, e5, hu7, hb7⟩ := HVZ.at_ hlnl
        rw [hir] at hu7
        obtain ⟨Au, cu, rfl⟩ := hu7.form
        obtain ⟨Ab, cb, rfl⟩ := hb7.form
        obtain ⟨bU7, oU7, hAu, hcU7⟩ := hu7.at_ (i := 0) (by simp)
        have i0c : wz.cell? ⟨bU7, oU7, none⟩ = some (.int .i64 i0) := by have := hcU7 0 _ rfl; simpa using this
        have hil : ((0 : Int) < ((i0 :: ir).length : Int)) := by simp
        have HAR3 := Lib.hid (show AF = if ((p1, p2) : Int × Int) = IP ∧ opq = 10 then some (true, 0) else if ((p1, p2) : Int × Int) = LP ∧ (opq = 10 ∨ opq = 11) then some (false, 1) else if ((p1, p2) : Int × Int) = LP ∧ opq = 9 then some (true, 0) else none from by rw [HAR2.out, if_neg hl0])
        have hq1 : (ln : Int) < (l.length : Int) := by omega
        have HLN := Lib.hid hlnl
        generalize l[ln].body = body7 at *
        obtain ⟨bn, hbn⟩ : ∃ bn, body7.length = bn + 1 := ⟨body7.length - 1, by omega⟩
        have u1 : ((body7.length : Int) - 1) = (bn : Int) := by omega
        have u2 : IntKind.i64.wrap (bn : Int) = (bn : Int) := IntWalk.i64_in _ (by omega)
        have hLP : LP = ((ln : Int), (bn : Int)) := by rw [hlp, show body7.length - 1 = bn from by omega]
        rw [hin, hLP] at HAR3
        generalize (i0 :: ir).length = il at *
        have hbl9 : (body7.length : Int) ≤ 100 := by omega
        have HIN := Lib.hid hin2
        subst hlq hAA hAu
        clear hl0 HAR2 HLP hN h9 hb1 hb2 hi hin hhd hlp hir hbn hLP e0 e2 e3 e4 hu7 hb7 hcU7 HVZ HND HUS HLO HUL HOP HV0 HU4 HUR HNO HL0
        have g0 : wz.cell? ⟨n, 0, none⟩ = some (.slice (some ⟨bA, oA, none⟩) l.length c) := HBR.out.g.cell 0
        go_upto_region 12 with fail
        have HX11 := Lib.hid ((Ext.refl wz).alloc (.cells #[.int .i64 (ln : Int), .int .i64 (bn : Int)] 26))
        have HLL := Lib.hid (Blk.new wz 26 #[.int .i64 (ln : Int), .int .i64 (bn : Int)])
        have E1 := HX11.out.cell e1
        have E2 := HX11.out.cell i0c
        have E3 := HX11.out.cell g0
        obtain ⟨pl, hpl⟩ : ∃ p, p = wz.heap.size := ⟨_, rfl⟩
        rw [← hpl] at HLL ⊢
        clear hpl e1 e5 i0c g0
        generalize wz.alloc (.cells #[.int .i64 (ln : Int), .int .i64 (bn : Int)] 26) = w11 at *
        go_upto_region 13 with fail
        have HX12 := Lib.hid ((Ext.refl w11).alloc (.cells #[.int .i64 i0, .int .i64 (-1)] 26))
        have HII := Lib.hid (Blk.new w11 26 #[.int .i64 i0, .int .i64 (-1)])
        obtain ⟨pi, hpi⟩ : ∃ p, p = w11.heap.size := ⟨_, rfl⟩
        rw [← hpi] at HII ⊢
        clear hpi E1 E2 E3
        generalize w11.alloc (.cells #[.int .i64 i0, .int .i64 (-1)] 26) = wq at *
        have HXZ := Lib.hid (HX11.out.trans HX12.out)
        have HXW := Lib.hid (HXE.out.trans HXZ.out)
        have HRW := Lib.hid (HRB.out.ext HXZ.out)
        have HBW := Lib.hid (HBR.out.ext HXZ.out)
        have HNW := Lib.hid (HN4.out.ext (HE.out.trans HXZ.out))
        have HLW := Lib.hid (HLL.out.ext HX12.out)
        clear HXE HRB HBR HN4 HLL HX11 HX12 HXZ
        have HXE := HXW
        have HRB := HRW
        clear HB4 HX4 HE HXW HRW
        have a0 : wq.cell? ⟨q8, 0, none⟩ = some (.int .i64 opq) := HNW.out.cell 0
        have c2 : wq.cell? ⟨n + 1, 0, none⟩ = some (.int .i64 p1) := HBW.out.p.cell 0
        have c3 : wq.cell? ⟨n + 1, 1, none⟩ = some (.int .i64 p2) := HBW.out.p.cell 1
        have d0 : wq.cell? ⟨pl, 0, none⟩ = some (.int .i64 (ln : Int)) := HLW.out.cell 0
        have d1 : wq.cell? ⟨pl, 1, none⟩ = some (.int .i64 (bn : Int)) := HLW.out.cell 1
        have b0 : wq.cell? ⟨pi, 0, none⟩ = some (.int .i64 i0) := HII.out.cell 0
        have b1 : wq.cell? ⟨pi, 1, none⟩ = some (.int .i64 (-1)) := HII.out.cell 1
        have heqI := eqPlD p1 p2 i0 (-1)
        have heqL := eqPlD p1 p2 (ln : Int) (bn : Int)
        clear hil hq1 u1 u2 hbl9
        have s0 := HRB.out.cell 0
        have s1 := HRB.out.cell 1
        have f0 := HRB.out.frozen 0
        have f1 := HRB.out.frozen 1
        have t0 := fun u => (HRB.out.set_ 0 u).frozen 1
        have t1 := fun u => (HRB.out.set_ 0 u).cell 1
        by_cases hI : ((p1, p2) : Int × Int) = (i0, -1)
        · have hIL : ¬ ((p1, p2) : Int × Int) = ((ln : Int), (bn : Int)) := by rw [hI]; intro e; injection e with a b; omega
          rw [decide_eq_true hI] at heqI
          rw [decide_eq_false hIL] at heqL
          by_cases o10 : opq = 10
          · have HR2 := Lib.hid (show AF = some (true, 0) from by rw [HAR3.out, if_pos ⟨hI, o10⟩])
            have t10 : ((opq : Int) == 10) = true := by simpa using o10
            clear o10 hI hIL
            go_wp2
            obtain ⟨y0, y1, hy⟩ := res2 HRB.out HXE.out HPS.out (.bool true) (.int .i64 0)
            generalize ((wq.setCell ⟨nr, 0, none⟩ (.bool true)).setCell ⟨nr, 1, none⟩ (.int .i64 0)) = wr9 at *
            exact bodyPost_ret (v := .tuple #[.agg #[.bool true, .int .i64 0], .bool true]) (by simp [results, Try.results40, go_sem, y0, y1]) rfl ⟨by rw [HR2.out]; rfl, hy⟩
          · have HR2 := Lib.hid (show AF = none from by rw [HAR3.out, if_neg (fun e => o10 e.2), if_neg (fun e => hIL e.1), if_neg (fun e => hIL e.1)])
            have t10 : ((opq : Int) == 10) = false := by simpa using o10
            clear o10 hI hIL
            go_wp2
            obtain ⟨y0, y1, hy⟩ := res2 HRB.out HXE.out HPS.out (.bool false) (.int .i64 0)
            generalize ((wq.setCell ⟨nr, 0, none⟩ (.bool false)).setCell ⟨nr, 1, none⟩ (.int .i64 0)) = wr9 at *
            exact bodyPost_ret (v := .tuple #[.agg #[.bool false, .int .i64 0], .bool false]) (by simp [results, Try.results40, go_sem, y0, y1]) rfl ⟨by rw [HR2.out]; rfl, hy⟩
        · rw [decide_eq_false hI] at heqI
          by_cases hL : ((p1, p2) : Int × Int) = ((ln : Int), (bn : Int))
          · rw [decide_eq_true hL] at heqL
            by_cases o10 : opq = 10
            · have HR2 := Lib.hid (show AF = some (false, 1) from by rw [HAR3.out, if_neg (fun e => hI e.1), if_pos ⟨hL, .inl o10⟩])
              have t10 : ((opq : Int) == 10) = true := by simpa using o10
              clear o10 hI hL
              go_wp2
              obtain ⟨y0, y1, hy⟩ := res2 HRB.out HXE.out HPS.out (.bool false) (.int .i64 1)
              generalize ((wq.setCell ⟨nr, 0, none⟩ (.bool false)).setCell ⟨nr, 1, none⟩ (.int .i64 1)) = wr9 at *
              exact bodyPost_ret (v := .tuple #[.agg #[.bool false, .int .i64 1], .bool true]) (by simp [results, Try.results40, go_sem, y0, y1]) rfl ⟨by rw [HR2.out]; rfl, hy⟩
            · have t10 : ((opq : Int) == 10) = false := by simpa using o10
              by_cases o11 : opq = 11
              · have HR2 := Lib.hid (show AF = some (false, 1) from by rw [HAR3.out, if_neg (fun e => hI e.1), if_pos ⟨hL, .inr o11⟩])
                have t11 : ((opq : Int) == 11) = true := by simpa using o11
                clear o10 o11 hI hL
                go_wp2
                obtain ⟨y0, y1, hy⟩ := res2 HRB.out HXE.out HPS.out (.bool false) (.int .i64 1)
                generalize ((wq.setCell ⟨nr, 0, none⟩ (.bool false)).setCell ⟨nr, 1, none⟩ (.int .i64 1)) = wr9 at *
                exact bodyPost_ret (v := .tuple #[.agg #[.bool false, .int .i64 1], .bool true]) (by simp [results, Try.results40, go_sem, y0, y1]) rfl ⟨by rw [HR2.out]; rfl, hy⟩
              · have t11 : ((opq : Int) == 11) = false := by simpa using o11
                have HAR4 := Lib.hid (show AF = if ((p1, p2) : Int × Int) = ((ln : Int), (bn : Int)) ∧ opq = 9 then some (true, 0) else none from by rw [HAR3.out, if_neg (fun e => hI e.1), if_neg (fun e => by rcases e.2 with e | e; exact o10 e; exact o11 e)])
                by_cases o9 : opq = 9
                · have HR2 := Lib.hid (show AF = some (true, 0) from by rw [HAR4.out, if_pos ⟨hL, o9⟩])
                  have t9 : ((opq : Int) == 9) = true := by simpa using o9
                  clear o10 o11 o9 hI hL
                  go_wp2
                  obtain ⟨y0, y1, hy⟩ := res2 HRB.out HXE.out HPS.out (.bool true) (.int .i64 0)
                  generalize ((wq.setCell ⟨nr, 0, none⟩ (.bool true)).setCell ⟨nr, 1, none⟩ (.int .i64 0)) = wr9 at *
                  exact bodyPost_ret (v := .tuple #[.agg #[.bool true, .int .i64 0], .bool true]) (by simp [results, Try.results40, go_sem, y0, y1]) rfl ⟨by rw [HR2.out]; rfl, hy⟩
                · have HR2 := Lib.hid (show AF = none from by rw [HAR4.out, if_neg (fun e => o9 e.2)])
                  have t9 : ((opq : Int) == 9) = false := by simpa using o9
                  clear o10 o11 o9 hI hL
                  go_wp2
                  obtain ⟨y0, y1, hy⟩ := res2 HRB.out HXE.out HPS.out (.bool false) (.int .i64 0)
                  generalize ((wq.setCell ⟨nr, 0, none⟩ (.bool false)).setCell ⟨nr, 1, none⟩ (.int .i64 0)) = wr9 at *
                  exact bodyPost_ret (v := .tuple #[.agg #[.bool false, .int .i64 0], .bool false]) (by simp [results, Try.results40, go_sem, y0, y1]) rfl ⟨by rw [HR2.out]; rfl, hy⟩
          · rw [decide_eq_false hL] at heqL
            have HR2 := Lib.hid (show AF = none from by rw [HAR3.out, if_neg (fun e => hI e.1), if_neg (fun e => hL e.1), if_neg (fun e => hL e.1)])
            clear hI hL
            go_wp2
            obtain ⟨y0, y1, hy⟩ := res2 HRB.out HXE.out HPS.out (.bool false) (.int .i64 0)
            generalize ((wq.setCell ⟨nr, 0, none⟩ (.bool false)).setCell ⟨nr, 1, none⟩ (.int .i64 0)) = wr9 at *
            exact bodyPost_ret (v := .tuple #[.agg #[.bool false, .int .i64 0], .bool false]) (by simp [results, Try.results40, go_sem, y0, y1]) rfl ⟨by rw [HR2.out]; rfl, hy⟩
end Go.Proofs.Ytcacicgkebcdkaa
namespace Go.Ox.Pl
open Go.Ox.Gr Go.Proofs.Ytcacicgkebcdkaa
def arcR1 (g : G) (p q : P2) : Option Ar := (arcF g p q).map fun w => ((p, q), w)
theorem arcsR_eq (g : G) (p : P2) : arcsR g p = (gPl g).filterMap (arcR1 g p) := rfl
theorem arcsR_len (g : G) (p : P2) : (arcsR g p).length ≤ (gPl g).length := by rw [arcsR_eq]; exact List.length_filterMap_le _ _
theorem flat_le {α β : Type} (f : α → List β) (n : Nat) : ∀ (l : List α), (∀ a ∈ l, (f a).length ≤ n) → (l.flatMap f).length ≤ l.length * n
  | [], _ => by simp
  | a :: l, h => by
    have h1 := flat_le f n l fun b hb => h b (by simp [hb])
    have h2 := h a (by simp)
    rw [List.flatMap_cons, List.length_append, List.length_cons, Nat.succ_mul]
    omega
def large (g : G) : Bool := largeB g.1 || decide (20 < (places g.1).length)
theorem large_no {g : G} (h : large g = false) : (gPl g).length ≤ 20 := by
  unfold large at h
  rw [Bool.or_eq_false_iff, decide_eq_false_iff_not] at h
  unfold gPl
  split
  · omega
  · simp
end Go.Ox.Pl
namespace Go.Proofs.Ytcacicgkebcdkaa
open Go.RowKit Go.Ox Go.Ox.Gr Mo
set_option linter.unusedVariables false
set_option linter.unusedSimpArgs false
attribute [local irreducible] RE OE NodesR
/-- a box of a way, filled -/
theorem Blk.fill2 {w : World} {p : Nat} {T : TypeId} {a b : Value} (h : Blk w p T #[a, b]) (u v : Value) : Blk ((w.setCell ⟨p, 0, none⟩ u).setCell ⟨p, 1, none⟩ v) p T #[u, v] := by
  have := (h.set_ 0 u).set_ 1 v
  simpa using this
theorem large20_any (d : Nat) (v : Value) (g : G) (w : World) (hv : NodesR d w v g.1) :
    Calls Try.prog 7 #[gAg v g.2] w fun e w' => e = .returned (.bool (Pl.large g)) ∧ Ext w w' := by
  obtain ⟨l, out⟩ := g
  have HD := Lib.hid (fun W (h : Ext w W) => deep_any 4 0 d v l W (by omega) (by omega) (hv.ext h))
  have HPL := Lib.hid (fun (h : deepB 4 l = false) W (hW : Ext w W) => rPlaces_any d v l out W (hv.ext hW) (by have := (deep_ok h).1; omega) (fun n hn => by have := deep_body h hn; omega))
  have HLG := Lib.hid (show Pl.large (l, out) = (deepB 4 l || decide (20 < (places l).length)) from rfl)
  simp only at hv
  generalize Pl.large (l, out) = LG at *
  generalize places l = pls at *
  obtain ⟨A, c, rfl⟩ := hv.form
  have HX0 := Lib.hid ((Ext.refl w).alloc (gCs (.slice A l.length c) out))
  have HB0 := Lib.hid (Blk.new w 24 #[.slice A l.length c, .int .i64 out])
  clear hv
  go_enter Try.func7, Try.ntmps7
  go_upto_region 1 with fail
  generalize w.heap.size = p at *
  generalize w.alloc (gCs (.slice A l.length c) out) = w0 at *
  have c0 : w0.cell? ⟨p, 0, none⟩ = some (.slice A l.length c) := HB0.out.cell 0
  have c1 : w0.cell? ⟨p, 1, none⟩ = some (.int .i64 out) := HB0.out.cell 1
  obtain ⟨db, hdb⟩ : ∃ db, deepB 4 l = db := ⟨_, rfl⟩
  rw [hdb] at HD HPL HLG
  cases db with
  | true =>
    go_wp2_with fail
    refine (HD.out w0 HX0.out).mono ?_
    rintro e w' ⟨rfl, rfl⟩
    go_wp2
    go_ret
    exact ⟨by rw [HLG.out]; rfl, HX0.out⟩
  | false =>
    go_wp2_with fail
    refine (HD.out w0 HX0.out).mono ?_
    rintro e w' ⟨rfl, rfl⟩
    go_wp2_with fail
    refine (HPL.out (by trivial) w0 HX0.out).mono ?_
    rintro e w1 ⟨u, rfl, hu, he⟩
    obtain ⟨A1, k1, rfl⟩ := hu.re.form
    have HX1 := Lib.hid (HX0.out.trans he)
    clear hu he c0 c1
    by_cases h20 : 20 < pls.length
    · have g2 : (20 : Int) < (pls.length : Int) := by omega
      have HR := Lib.hid (show LG = true from by rw [HLG.out, decide_eq_true h20]; rfl)
      clear h20
      go_wp2
      go_ret
      exact ⟨by rw [HR.out]; first | rfl | (simp; omega), HX1.out⟩
    · have g2 : ¬ (20 : Int) < (pls.length : Int) := by omega
      have HR := Lib.hid (show LG = false from by rw [HLG.out, decide_eq_false h20]; rfl)
      clear h20
      go_wp2
      go_ret
      exact ⟨by rw [HR.out]; first | rfl | (simp; omega), HX1.out⟩
end Go.Proofs.Ytcacicgkebcdkaa
namespace Go.Proofs.Ytcacicgkebcdkaa
open Go.RowKit Go.Ox Go.Ox.Gr
set_option linter.unusedVariables false
set_option linter.unusedSimpArgs false
theorem eqInWy9 (a c : Bool) (b d : Int) (w : World) : (Op.equalIn 9999 37 (.agg #[.bool a, .int .i64 b]) (.agg #[.bool c, .int .i64 d])).run Try.prog w = .ok ((a == c) && (b == d)) w := by
  have u3 := Try.underlying3
  have a3 := Try.isAgg3
  have z3 := Try.sizeOf3
  have u4 := Try.underlying4
  have a4 := Try.isAgg4
  have z4 := Try.sizeOf4
  have hS : Try.prog.underlying 37 = some (.struct (Try.prog.fieldsOf 37)) := by kernel_rfl
  have hp : Try.prog.stoodInHeld 37 = false := by kernel_rfl
  rw [show (9999 : Nat) = 9998 + 1 from rfl, run_equalIn_agg w 9998 37 _ _ hS hp]
  simp only [Program.fieldsOf, Try.underlying37]
  go_simp
  cases a <;> cases c <;> by_cases h2 : b = d <;> simp [h2]
theorem eqInWy (a c : Bool) (b d : Int) (w : World) : (Op.equalIn 10000 37 (.agg #[.bool a, .int .i64 b]) (.agg #[.bool c, .int .i64 d])).run Try.prog w = .ok ((a == c) && (b == d)) w := by
  have u3 := Try.underlying3
  have a3 := Try.isAgg3
  have z3 := Try.sizeOf3
  have u4 := Try.underlying4
  have a4 := Try.isAgg4
  have z4 := Try.sizeOf4
  have hS : Try.prog.underlying 37 = some (.struct (Try.prog.fieldsOf 37)) := by kernel_rfl
  have hp : Try.prog.stoodInHeld 37 = false := by kernel_rfl
  rw [show (10000 : Nat) = 9999 + 1 from rfl, run_equalIn_agg w 9999 37 _ _ hS hp]
  simp only [Program.fieldsOf, Try.underlying37]
  go_simp
  cases a <;> cases c <;> by_cases h2 : b = d <;> simp [h2]
theorem wyB (a c : Bool) (b d : Int) : ((a == c) && (b == d)) = decide ((a, b) = (c, d)) := by
  cases a <;> cases c <;> by_cases h : b = d <;> simp [h]
theorem eqWyD (a c : Bool) (b d : Int) (w : World) : (binOp .eql 37 (.agg #[.bool a, .int .i64 b]) (.agg #[.bool c, .int .i64 d])).run Try.prog w = .ok (.bool (decide ((a, b) = (c, d)))) w := by
  rw [run_eql_struct, eqInWy, wyB]; rfl
theorem eqInAr (a b c d f : Int) (e : Bool) (a' b' c' d' f' : Int) (e' : Bool) (w : World) : (Op.equalIn 10000 39 (.agg #[.int .i64 a, .int .i64 b, .int .i64 c, .int .i64 d, .bool e, .int .i64 f]) (.agg #[.int .i64 a', .int .i64 b', .int .i64 c', .int .i64 d', .bool e', .int .i64 f'])).run Try.prog w =
    .ok (decide (((((a, b), c, d), e, f) : Pl.Ar) = (((a', b'), c', d'), e', f'))) w := by
  have hS : Try.prog.underlying 39 = some (.struct (Try.prog.fieldsOf 39)) := by kernel_rfl
  have hp : Try.prog.stoodInHeld 39 = false := by kernel_rfl
  have h1 := eqInPl9
  have h2 := eqInWy9
  have a1 := Try.isAgg26
  have z1 := Try.sizeOf26
  have a2 := Try.isAgg37
  have z2 := Try.sizeOf37
  rw [show (10000 : Nat) = 9999 + 1 from rfl, run_equalIn_agg w 9999 39 _ _ hS hp]
  simp only [Program.fieldsOf, Try.underlying39]
  go_simp
  by_cases q1 : a = a' <;> by_cases q2 : b = b' <;> by_cases q3 : c = c' <;> by_cases q4 : d = d' <;> cases e <;> cases e' <;> by_cases q6 : f = f' <;> simp [q1, q2, q3, q4, q6]
theorem neArD (x y : Pl.Ar) (w : World) : (binOp .neq 39 (arV x) (arV y)).run Try.prog w = .ok (.bool (!decide (x = y))) w := by
  obtain ⟨⟨⟨a, b⟩, c, d⟩, e, f⟩ := x
  obtain ⟨⟨⟨a', b'⟩, c', d'⟩, e', f'⟩ := y
  show (binOp .neq 39 (.agg #[.int .i64 a, .int .i64 b, .int .i64 c, .int .i64 d, .bool e, .int .i64 f]) (.agg #[.int .i64 a', .int .i64 b', .int .i64 c', .int .i64 d', .bool e', .int .i64 f'])).run Try.prog w = _
  rw [run_neq_struct, eqInAr]; rfl
end Go.Proofs.Ytcacicgkebcdkaa
