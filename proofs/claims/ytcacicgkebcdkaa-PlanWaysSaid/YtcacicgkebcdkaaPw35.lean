/-
  PlRef, packed: what the claim needs of them.
-/
import Derived.Test.YtcacicgkebcdkaaPw34
set_option linter.unusedSimpArgs false
set_option linter.unusedVariables false
set_option maxRecDepth 100000
namespace Go.Proofs.Ytcacicgkebcdkaa
open Go.RowKit Go.Ox Go.Ox.Gr Mo
attribute [local irreducible] RE OE NodesR
set_option maxHeartbeats 2000000 in
theorem rat_any (v : Value) (l : List Pl) (i j : Int) (w : World) (hv : RE w v l) (hl : l.length ≤ 1000000) :
    Calls Try.prog 47 #[v, .agg #[.int .i64 i, .int .i64 j]] w fun e w' => e = .returned (.int .i64 (posFrom (i, j) l 0)) ∧ Ext w w' := by
  obtain ⟨A, c, rfl⟩ := hv.form
  have HX0 := Lib.hid ((Ext.refl w).alloc (.cells #[.int .i64 i, .int .i64 j] 26))
  have HB0 := Lib.hid (Blk.new w 26 #[.int .i64 i, .int .i64 j])
  have HV := Lib.hid (hv.ext HX0.out)
  have HL := Lib.hid hl
  have HPA := Lib.hid (fun k hk h1 h2 => @posFrom_at (i, j) l 0 k hk h1 h2)
  have HPN := Lib.hid (@posFrom_none (i, j) l 0)
  generalize posFrom (i, j) l 0 = R at *
  clear hv hl
  go_enter Try.func47, Try.ntmps47
  go_upto_region 1 with fail
  generalize w.heap.size = p at *
  generalize w.alloc (.cells #[.int .i64 i, .int .i64 j] 26) = w0 at *
  go_wp2
  go_loopw [5] (fun iv wr => ∃ k : Nat, k ≤ l.length ∧ iv = .int .i64 (k : Int) ∧ ((i, j) : Pl) ∉ l.take k ∧ Ext w0 wr) (fun iv _ => l.length - (intOf iv).toNat)
  case atStart => exact ⟨0, Nat.zero_le _, rfl, by simp, Ext.refl _⟩
  case round =>
    obtain ⟨k, hk, rfl, hno, hext⟩ := hrel
    have HNO := Lib.hid hno
    have HE := Lib.hid hext
    have a2 : wr.cell? ⟨p, 0, none⟩ = some (.int .i64 i) := (HB0.out.ext hext).cell 0
    have a3 : wr.cell? ⟨p, 1, none⟩ = some (.int .i64 j) := (HB0.out.ext hext).cell 1
    have hkb : k ≤ 1000000 := by have := HL.out; omega
    clear hno
    by_cases hlt : k < l.length
    · have q1 : (k : Int) < (l.length : Int) := by omega
      have q0 : 0 ≤ (k : Int) := by omega
      have q1n : k < l.length := hlt
      have HLT := Lib.hid hlt
      obtain ⟨bA, oA, rfl, y0, y1⟩ := rp2 (HV.out.ext hext) hlt
      have HTK := Lib.hid (show ((i, j) : Pl) ≠ l[k] → ((i, j) : Pl) ∉ l.take (k + 1) from fun hne hm => by
        rw [List.take_succ_eq_append_getElem hlt, List.mem_append] at hm
        rcases hm with hm | hm
        · exact HNO.out hm
        · exact hne (List.mem_singleton.1 hm))
      have HHIT := Lib.hid (HPA.out k hlt HNO.out)
      generalize l[k] = x at *
      obtain ⟨x1, x2⟩ := x
      dsimp only at y0 y1
      have heq := eqPl
      clear hext hk hlt
      by_cases hq : (x1, x2) = (i, j)
      · have hd := pB_t hq
        have HR := Lib.hid (show R = (k : Int) by have := HHIT.out hq; rw [Nat.zero_add] at this; exact this)
        clear hq
        go_wp2
        refine wp_regionY [] [] Ext Ext (fun _ => True) (by kernel_rfl) (by rfl) (by rfl) (by kernel_rfl) (by kernel_rfl) (by kernel_rfl) (fun _ _ _ x y => x.trans y) Ext.refl (fun _ _ x => x) (Ext.refl _).drew (fun _ _ x _ => x) trivial ?_
        repeat (first | (refine wpY_move0 rfl rfl (by first | exact runs0 | exact runs1 rfl) Ext.refl rfl rfl rfl ?_; apply Exists.intro; refine ⟨?_, ?_⟩; · (go_simp; rfl)) | (refine wpY_move rfl rfl (by first | exact runs0 | exact runs1 rfl) Ext.refl rfl rfl rfl (fun _ _ _ h _ => h) ?_) | (refine wpY_val rfl rfl (by first | exact runs0 | exact runs1 rfl) Ext.refl rfl ?_; apply Exists.intro; refine ⟨?_, ?_⟩; · (intro a w' hR; (try (intro h1; try have e1 : _ = _ := h1)); (try (intro h2; try have e2 : _ = _ := h2)); (try (intro h3; try have e3 : _ = _ := h3)); go_simp; rfl)) | (refine wpY_skip rfl rfl (by first | exact .inl rfl | exact .inr rfl) ?_))
        refine wpY_val rfl rfl (by first | exact runs0 | exact runs1 rfl) Ext.refl rfl ?_; apply Exists.intro; refine ⟨?_, ?_⟩
        · intro a w' hR h1
          have e1 : _ = _ := h1
          have hl0 := hR.cell y0
          have hl1 := hR.cell y1
          go_simp
          rfl
        refine wpY_val rfl rfl (by first | exact runs0 | exact runs1 rfl) Ext.refl rfl ?_; apply Exists.intro; refine ⟨?_, ?_⟩
        · intro a w' hR h1
          have e1 : _ = _ := h1
          have hl0 := hR.cell a2
          have hl1 := hR.cell a3
          go_simp
          rfl
        refine wpY_val rfl rfl (by first | exact runs0 | exact runs1 rfl) Ext.refl rfl ?_; apply Exists.intro; refine ⟨?_, ?_⟩
        · intro a w' hR h1 h2
          have e1 : _ = _ := h1
          have e2 : _ = _ := h2
          have hq9 := heq x1 x2 i j w'
          rw [hd] at hq9
          go_simp
          rfl
        refine wpY_done ?_
        intro w5 hx5 hS
        iterate 6 (rintro _ rfl)
        dsimp only [FinV]
        go_simp
        have hx5 : Ext wr w5 := hx5
        have HX5 := Lib.hid ((HX0.out.trans HE.out).trans hx5)
        clear hx5 hS y0 y1 a2 a3 heq hd
        go_wp2
        go_ret
        exact ⟨by rw [HR.out]; rfl, HX5.out⟩
      · have hd := pB_f hq
        have HN2 := Lib.hid (HTK.out fun e => hq e.symm)
        clear hq
        go_wp2
        refine wp_regionY [] [] Ext Ext (fun _ => True) (by kernel_rfl) (by rfl) (by rfl) (by kernel_rfl) (by kernel_rfl) (by kernel_rfl) (fun _ _ _ x y => x.trans y) Ext.refl (fun _ _ x => x) (Ext.refl _).drew (fun _ _ x _ => x) trivial ?_
        repeat (first | (refine wpY_move0 rfl rfl (by first | exact runs0 | exact runs1 rfl) Ext.refl rfl rfl rfl ?_; apply Exists.intro; refine ⟨?_, ?_⟩; · (go_simp; rfl)) | (refine wpY_move rfl rfl (by first | exact runs0 | exact runs1 rfl) Ext.refl rfl rfl rfl (fun _ _ _ h _ => h) ?_) | (refine wpY_val rfl rfl (by first | exact runs0 | exact runs1 rfl) Ext.refl rfl ?_; apply Exists.intro; refine ⟨?_, ?_⟩; · (intro a w' hR; (try (intro h1; try have e1 : _ = _ := h1)); (try (intro h2; try have e2 : _ = _ := h2)); (try (intro h3; try have e3 : _ = _ := h3)); go_simp; rfl)) | (refine wpY_skip rfl rfl (by first | exact .inl rfl | exact .inr rfl) ?_))
        refine wpY_val rfl rfl (by first | exact runs0 | exact runs1 rfl) Ext.refl rfl ?_; apply Exists.intro; refine ⟨?_, ?_⟩
        · intro a w' hR h1
          have e1 : _ = _ := h1
          have hl0 := hR.cell y0
          have hl1 := hR.cell y1
          go_simp
          rfl
        refine wpY_val rfl rfl (by first | exact runs0 | exact runs1 rfl) Ext.refl rfl ?_; apply Exists.intro; refine ⟨?_, ?_⟩
        · intro a w' hR h1
          have e1 : _ = _ := h1
          have hl0 := hR.cell a2
          have hl1 := hR.cell a3
          go_simp
          rfl
        refine wpY_val rfl rfl (by first | exact runs0 | exact runs1 rfl) Ext.refl rfl ?_; apply Exists.intro; refine ⟨?_, ?_⟩
        · intro a w' hR h1 h2
          have e1 : _ = _ := h1
          have e2 : _ = _ := h2
          have hq9 := heq x1 x2 i j w'
          rw [hd] at hq9
          go_simp
          rfl
        refine wpY_done ?_
        intro w5 hx5 hS
        iterate 6 (rintro _ rfl)
        dsimp only [FinV]
        go_simp
        have hx5 : Ext wr w5 := hx5
        have HX5 := Lib.hid (HE.out.trans hx5)
        clear hx5 hS y0 y1 a2 a3 heq hd
        go_wp2
        exact ⟨⟨k + 1, HLT.out, by go_num, HN2.out, HX5.out⟩, by have := HLT.out; simp [intOf]; omega⟩
    · obtain rfl : k = l.length := by omega
      have q1 : ¬ (l.length : Int) < (l.length : Int) := by omega
      have HR := Lib.hid (HPN.out (by have := HNO.out; rw [List.take_length] at this; exact this))
      clear hext hk hlt
      go_wp2
      go_ret
      exact ⟨by rw [HR.out]; rfl, HX0.out.trans HE.out⟩
theorem any_hit {q : Pl.P2} {us : List Po} {k : Nat} (h : k < us.length) (e : us[k].1 = q) : us.any (fun u => u.1 == q) = true := List.any_eq_true.2 ⟨us[k], List.getElem_mem h, by simpa using e⟩
set_option maxHeartbeats 8000000 in
theorem rarc_any (d : Nat) (v : Value) (g : G) (p q : Pl.P2) (w : World) (hv : NodesR d w v g.1) (hok : gOk g = true) (hp : p ∈ gPl g) :
    Calls Try.prog 40 #[gAg v g.2, plV p, plV q] w fun e w' => e = .returned (.tuple #[wV ((Pl.arcF g p q).getD (false, 0)), .bool (Pl.arcF g p q).isSome]) ∧ Ext w w' := by
  have hpn : (gNd g p).isSome = true := (gNd_places hok).2 (by unfold gPl at hp; rwa [if_pos hok] at hp)
  have HND := Lib.hid (fun W (h : Ext w W) => rNode_any d v g q W (hv.ext h) hok)
  have HUS := Lib.hid (fun W (h : Ext w W) => rUsers_any d v g p W (hv.ext h) (gOk_Lk (l := g.1) (out := g.2) hok) hpn)
  have HLO := Lib.hid (fun W (h : Ext w W) => rLoop_any d v g.1 g.2 W (hv.ext h) (by have := gOk_len hok; omega))
  have HUL := Lib.hid (gUs_len g p)
  have HARC := Lib.hid (show Pl.arcF g p q = if (gUs g p).any (fun u => u.1 == q) = true then some (decide (p.2 < 0) && decide (0 ≤ q.2), 0)
    else if loopAt g.1 < 0 then none
    else if p = Pl.inP g ∧ Pl.opAt g q = 10 then some (true, 0)
    else if p = Pl.lastP g ∧ (Pl.opAt g q = 10 ∨ Pl.opAt g q = 11) then some (false, 1)
    else if p = Pl.lastP g ∧ Pl.opAt g q = 9 then some (true, 0)
    else none from rfl)
  have HOP := Lib.hid (show Pl.opAt g q = ((gNd g q).getD default).op from rfl)
  obtain ⟨l, out⟩ := g
  have HLP := Lib.hid (show ¬ loopAt l < 0 → _ from fun h0 => Pl.lp_of (l := l) (out := out) (show loopB (l, out) = true from by unfold loopB; rw [hok]; simp; omega))
  have HLA := Lib.hid (show (l, out).1 = l from rfl)
  simp only at HARC HLO HND HUS hv
  generalize Pl.arcF (l, out) p q = AF at *
  generalize Pl.opAt (l, out) q = opq at *
  generalize Pl.inP (l, out) = IP at *
  generalize Pl.lastP (l, out) = LP at *
  generalize gUs (l, out) p = US at *
  generalize (gNd (l, out) q).getD default = nd at *
  generalize (gNd (l, out) q).isSome = sq at *
  generalize hla : loopAt l = la at *
  have HV0 := Lib.hid hv
  obtain ⟨A, c, rfl⟩ := hv.form
  obtain ⟨p1, p2⟩ := p
  obtain ⟨q1, q2⟩ := q
  obtain ⟨op, ins, kind, fa, a, body⟩ := nd
  have hopq : opq = op := HOP.out
  subst hopq
  have h0 : BW4 ((((w.alloc (gCs (.slice A l.length c) out)).alloc (.cells #[.int .i64 p1, .int .i64 p2] 26)).alloc (.cells #[.int .i64 q1, .int .i64 q2] 26)).alloc (.cells #[.bool false, .int .i64 0] 37)) w.heap.size (.slice A l.length c) out p1 p2 q1 q2 ∧ Ext w ((((w.alloc (gCs (.slice A l.length c) out)).alloc (.cells #[.int .i64 p1, .int .i64 p2] 26)).alloc (.cells #[.int .i64 q1, .int .i64 q2] 26)).alloc (.cells #[.bool false, .int .i64 0] 37)) := BW4.new w (.slice A l.length c) out p1 p2 q1 q2
  have HB0 := Lib.hid h0.1
  have HX0 := Lib.hid h0.2
  clear h0 hv hp hpn hok
  go_enter Try.func40, Try.ntmps40
  go_upto_region 1 with fail
  obtain ⟨n, hn⟩ : ∃ n, n = w.heap.size := ⟨_, rfl⟩
  rw [← hn] at HB0 ⊢
  have HPS := Lib.hid (show w.heap.size ≤ n + 1 + 1 + 1 from by omega)
  clear hn
  generalize (((w.alloc (gCs (.slice A l.length c) out)).alloc (.cells #[.int .i64 p1, .int .i64 p2] 26)).alloc (.cells #[.int .i64 q1, .int .i64 q2] 26)).alloc (.cells #[.bool false, .int .i64 0] 37) = w0 at *
  obtain ⟨c0, c1, c2, c3, c4, c5⟩ := HB0.out.cells
  go_wp2_with fail
  refine (HND.out w0 HX0.out).mono ?_
  rintro e w1 ⟨u9, b9, rfl, hu9, hb9, he1⟩
  simp only [Nd.op, Nd.kind, Nd.fa, Nd.a, Nd.ins, Nd.body] at hu9 hb9 ⊢
  obtain ⟨A9, c9, rfl⟩ := hu9.form
  obtain ⟨A8, c8, rfl⟩ := hb9.form
  have hx2 := he1.alloc (ndCs opq kind fa a (.slice A9 ins.length c9) (.slice A8 body.length c8))
  have HX2 := Lib.hid (HX0.out.trans hx2)
  have HB2 := Lib.hid (HB0.out.ext hx2)
  have HNB := Lib.hid (Blk.new w1 45 #[.int .i64 opq, .slice A9 ins.length c9, .int .i64 kind, .int .i64 fa, .int .i64 a, .slice A8 body.length c8])
  clear hu9 hb9 he1 hx2 c0 c1 c2 c3 c4 c5 HX0 HB0
  go_upto_region 2 with fail
  generalize w1.heap.size = q8 at *
  generalize w1.alloc (ndCs opq kind fa a (.slice A9 ins.length c9) (.slice A8 body.length c8)) = w2 at *
  obtain ⟨c0, c1, c2, c3, c4, c5⟩ := HB2.out.cells
  go_wp2_with fail
  refine (HLO.out w2 HX2.out).mono ?_
  rintro e w3 ⟨rfl, he3⟩
  have HX3 := Lib.hid (HX2.out.trans he3)
  have HB3 := Lib.hid (HB2.out.ext he3)
  have HN3 := Lib.hid (HNB.out.ext he3)
  clear he3 c0 c1 c2 c3 c4 c5 HX2 HB2 HNB
  obtain ⟨c0, c1, c2, c3, c4, c5⟩ := HB3.out.cells
  go_wp2_with fail
  refine (HUS.out w3 HX3.out).mono ?_
  rintro e w4 ⟨uu, rfl, huu, he4⟩
  obtain ⟨AU, cU, rfl⟩ := huu.form
  have HU4 := Lib.hid huu
  have HX4 := Lib.hid (HX3.out.trans he4)
  have HB4 := Lib.hid (HB3.out.ext he4)
  have HN4 := Lib.hid (HN3.out.ext he4)
  clear huu he4 c0 c1 c2 c3 c4 c5 HX3 HB3 HN3
  obtain ⟨nr, hnr⟩ : ∃ k, k = n + 1 + 1 + 1 := ⟨_, rfl⟩
  rw [← hnr] at HPS ⊢
  have HNR := Lib.hid hnr
  clear hnr
  go_wp2
  go_loopw [12] (fun iv wr => ∃ k : Nat, k ≤ US.length ∧ iv = .int .i64 (k : Int) ∧ (∀ u ∈ US.take k, ¬ u.1 = (q1, q2)) ∧ Ext w4 wr) (fun iv _ => US.length - (intOf iv).toNat)
  case atStart => exact ⟨0, Nat.zero_le _, rfl, by simp, Ext.refl _⟩
  case round =>
    obtain ⟨k, hk, rfl, hno, hext⟩ := hrel
    have HNO := Lib.hid hno
    have HE := Lib.hid hext
    have HBR := Lib.hid (HB4.out.ext hext)
    have HUR := Lib.hid (HU4.out.ext hext)
    have hkb : k ≤ 1000000 := by have := HUL.out; omega
    clear hno hext
    by_cases hlt : k < US.length
    · have r1 : (k : Int) < (US.length : Int) := by omega
      have r0 : 0 ≤ (k : Int) := by omega
      have HLT := Lib.hid hlt
      obtain ⟨bU, oU, hAU, hcU⟩ := RE.at_ HUR.out hlt
      have HTK := Lib.hid (List.take_succ_eq_append_getElem hlt)
      have HHT := Lib.hid (fun e => any_hit (q := (q1, q2)) hlt e)
      generalize US[k] = z at *
      obtain ⟨⟨z1, z2⟩, z3⟩ := z
      have y0 : wr.cell? ⟨bU, oU + k * 3, none⟩ = some (.int .i64 z1) := hcU 0 _ rfl
      have y1 : wr.cell? ⟨bU, oU + k * 3 + 1, none⟩ = some (.int .i64 z2) := hcU 1 _ rfl
      subst hAU
      have a2 : wr.cell? ⟨n + 1 + 1, 0, none⟩ = some (.int .i64 q1) := HBR.out.q.cell 0
      have a3 : wr.cell? ⟨n + 1 + 1, 1, none⟩ = some (.int .i64 q2) := HBR.out.q.cell 1
      clear hcU hlt hk
      by_cases hq : (z1, z2) = (q1, q2)
      · have hd := decide_eq_true hq
        have HR := Lib.hid (show AF = some (decide (p2 < 0) && decide (0 ≤ q2), 0) from by rw [HARC.out, if_pos (HHT.out hq)])
        have heq := eqPlD z1 z2 q1 q2
        rw [hd] at heq
        clear hq
        go_wp2
        refine wp_regionY [] [] Ext Ext (fun _ => True) (by kernel_rfl) (by rfl) (by rfl) (by kernel_rfl) (by kernel_rfl) (by kernel_rfl) (fun _ _ _ x y => x.trans y) Ext.refl (fun _ _ x => x) (Ext.refl _).drew (fun _ _ x _ => x) trivial ?_
        repeat (first | (refine wpY_move0 rfl rfl (by first | exact runs0 | exact runs1 rfl) Ext.refl rfl rfl rfl ?_; apply Exists.intro; refine ⟨?_, ?_⟩; · (go_simp; rfl)) | (refine wpY_move rfl rfl (by first | exact runs0 | exact runs1 rfl) Ext.refl rfl rfl rfl (fun _ _ _ h _ => h) ?_) | (refine wpY_val rfl rfl (by first | exact runs0 | exact runs1 rfl) Ext.refl rfl ?_; apply Exists.intro; refine ⟨?_, ?_⟩; · (intro a w' hR; (try (intro h1; try have e1 : _ = _ := h1)); (try (intro h2; try have e2 : _ = _ := h2)); (try (intro h3; try have e3 : _ = _ := h3)); go_simp; rfl)) | (refine wpY_skip rfl rfl (by first | exact .inl rfl | exact .inr rfl) ?_))
        refine wpY_val rfl rfl (by first | exact runs0 | exact runs1 rfl) Ext.refl rfl ?_; apply Exists.intro; refine ⟨?_, ?_⟩
        · intro a w' hR h1
          have e1 : _ = _ := h1
          have hl0 := hR.cell y0
          have hl1 := hR.cell y1
          go_simp
          rfl
        refine wpY_val rfl rfl (by first | exact runs0 | exact runs1 rfl) Ext.refl rfl ?_; apply Exists.intro; refine ⟨?_, ?_⟩
        · intro a w' hR h1
          have e1 : _ = _ := h1
          have hl0 := hR.cell a2
          have hl1 := hR.cell a3
          go_simp
          rfl
        refine wpY_val rfl rfl (by first | exact runs0 | exact runs1 rfl) Ext.refl rfl ?_; apply Exists.intro; refine ⟨?_, ?_⟩
        · intro a w' hR h1 h2
          have e1 : _ = _ := h1
          have e2 : _ = _ := h2
          have hq9 := heq w'
          go_simp
          rfl
        refine wpY_done ?_
        intro wz hx5 hS
        iterate 7 (rintro _ rfl)
        dsimp only [FinV]
        go_simp
        have hx5 : Ext wr wz := hx5
        have HXE := Lib.hid ((HX4.out.trans HE.out).trans hx5)
        have HBZ := Lib.hid (HBR.out.ext hx5)
        clear hx5 hS y0 y1 a2 a3 heq hd
        have c3 : wz.cell? ⟨n + 1, 1, none⟩ = some (.int .i64 p2) := HBZ.out.p.cell 1
        have c5 : wz.cell? ⟨n + 1 + 1, 1, none⟩ = some (.int .i64 q2) := HBZ.out.q.cell 1
        have HRB := Lib.hid (show Blk wz nr 37 #[.bool false, .int .i64 0] from by rw [HNR.out]; exact HBZ.out.r)
        have s0 := HRB.out.cell 0
        have s1 := HRB.out.cell 1
        have f0 := HRB.out.frozen 0
        have f1 := HRB.out.frozen 1
        have t0 := fun u => (HRB.out.set_ 0 u).frozen 1
        have t1 := fun u => (HRB.out.set_ 0 u).cell 1
        by_cases hp2 : p2 < 0
        · have e1 := decide_eq_true hp2
          by_cases hq2 : 0 ≤ q2
          · have e2 := decide_eq_true hq2
            have HR2 := Lib.hid (show AF = some (true, 0) from by rw [HR.out, e1, e2]; rfl)
            clear e1 e2
            go_wp2
            obtain ⟨y0, y1, hy⟩ := res2 HRB.out HXE.out HPS.out (.bool true) (.int .i64 0)
            generalize ((wz.setCell ⟨nr, 0, none⟩ (.bool true)).setCell ⟨nr, 1, none⟩ (.int .i64 0)) = wr9 at *
            exact bodyPost_ret (v := .tuple #[.agg #[.bool true, .int .i64 0], .bool true]) (by simp [results, Try.results40, go_sem, y0, y1]) rfl ⟨by rw [HR2.out]; rfl, hy⟩
          · have e2 := decide_eq_false hq2
            have HR2 := Lib.hid (show AF = some (false, 0) from by rw [HR.out, e1, e2]; rfl)
            clear e1 e2
            go_wp2
            obtain ⟨y0, y1, hy⟩ := res2 HRB.out HXE.out HPS.out (.bool false) (.int .i64 0)
            generalize ((wz.setCell ⟨nr, 0, none⟩ (.bool false)).setCell ⟨nr, 1, none⟩ (.int .i64 0)) = wr9 at *
            exact bodyPost_ret (v := .tuple #[.agg #[.bool false, .int .i64 0], .bool true]) (by simp [results, Try.results40, go_sem, y0, y1]) rfl ⟨by rw [HR2.out]; rfl, hy⟩
        · have e1 := decide_eq_false hp2
          have HR2 := Lib.hid (show AF = some (false, 0) from by rw [HR.out, e1]; rfl)
          clear e1
          go_wp2
          obtain ⟨y0, y1, hy⟩ := res2 HRB.out HXE.out HPS.out (.bool false) (.int .i64 0)
          generalize ((wz.setCell ⟨nr, 0, none⟩ (.bool false)).setCell ⟨nr, 1, none⟩ (.int .i64 0)) = wr9 at *
          exact bodyPost_ret (v := .tuple #[.agg #[.bool false, .int .i64 0], .bool true]) (by simp [results, Try.results40, go_sem, y0, y1]) rfl ⟨by rw [HR2.out]; rfl, hy⟩
      · have hd := decide_eq_false hq
        have HN2 := Lib.hid (show ∀ u ∈ US.take (k + 1), ¬ u.1 = (q1, q2) from by
          rw [HTK.out]
          intro u hu
          rcases List.mem_append.1 hu with e | e
          · exact HNO.out u e
          · rw [List.mem_singleton] at e; subst e; exact hq)
        have heq := eqPlD z1 z2 q1 q2
        rw [hd] at heq
        clear hq
        go_wp2
        refine wp_regionY [] [] Ext Ext (fun _ => True) (by kernel_rfl) (by rfl) (by rfl) (by kernel_rfl) (by kernel_rfl) (by kernel_rfl) (fun _ _ _ x y => x.trans y) Ext.refl (fun _ _ x => x) (Ext.refl _).drew (fun _ _ x _ => x) trivial ?_
        repeat (first | (refine wpY_move0 rfl rfl (by first | exact runs0 | exact runs1 rfl) Ext.refl rfl rfl rfl ?_; apply Exists.intro; refine ⟨?_, ?_⟩; · (go_simp; rfl)) | (refine wpY_move rfl rfl (by first | exact runs0 | exact runs1 rfl) Ext.refl rfl rfl rfl (fun _ _ _ h _ => h) ?_) | (refine wpY_val rfl rfl (by first | exact runs0 | exact runs1 rfl) Ext.refl rfl ?_; apply Exists.intro; refine ⟨?_, ?_⟩; · (intro a w' hR; (try (intro h1; try have e1 : _ = _ := h1)); (try (intro h2; try have e2 : _ = _ := h2)); (try (intro h3; try have e3 : _ = _ := h3)); go_simp; rfl)) | (refine wpY_skip rfl rfl (by first | exact .inl rfl | exact .inr rfl) ?_))
        refine wpY_val rfl rfl (by first | exact runs0 | exact runs1 rfl) Ext.refl rfl ?_; apply Exists.intro; refine ⟨?_, ?_⟩
        · intro a w' hR h1
          have e1 : _ = _ := h1
          have hl0 := hR.cell y0
          have hl1 := hR.cell y1
          go_simp
          rfl
        refine wpY_val rfl rfl (by first | exact runs0 | exact runs1 rfl) Ext.refl rfl ?_; apply Exists.intro; refine ⟨?_, ?_⟩
        · intro a w' hR h1
          have e1 : _ = _ := h1
          have hl0 := hR.cell a2
          have hl1 := hR.cell a3
          go_simp
          rfl
        refine wpY_val rfl rfl (by first | exact runs0 | exact runs1 rfl) Ext.refl rfl ?_; apply Exists.intro; refine ⟨?_, ?_⟩
        · intro a w' hR h1 h2
          have e1 : _ = _ := h1
          have e2 : _ = _ := h2
          have hq9 := heq w'
          go_simp
          rfl
        refine wpY_done ?_
        intro w5 hx5 hS
        iterate 7 (rintro _ rfl)
        dsimp only [FinV]
        go_simp
        have hx5 : Ext wr w5 := hx5
        have HX5 := Lib.hid (HE.out.trans hx5)
        clear hx5 hS y0 y1 a2 a3 heq hd
        go_wp2
        exact ⟨⟨k + 1, HLT.out, by go_num, HN2.out, HX5.out⟩, by have := HLT.out; simp [intOf]; omega⟩
    · obtain rfl : k = US.length := by omega
      have r1 : ¬ (US.length : Int) < (US.length : Int) := by omega
      have HNA := Lib.hid (show ¬ US.any (fun u => u.1 == (q1, q2)) = true from by
        rw [List.any_eq_true]
        rintro ⟨u, hu, he⟩
        have := HNO.out
        rw [List.take_length] at this
        exact this u hu (by simpa using he))
      have HAR2 := Lib.hid (HARC.out.trans (if_neg HNA.out))
      clear hk hlt HARC
      rename World => wz
      have HXE := Lib.hid (HX4.out.trans HE.out)
      have HRB := Lib.hid (show Blk wz nr 37 #[.bool false, .int .i64 0] from by rw [HNR.out]; exact HBR.out.r)
      by_cases hl0 : la < 0
      · have HR2 := Lib.hid (show AF = none from by rw [HAR2.out, if_pos hl0])
        have s0 := HRB.out.cell 0
        have s1 := HRB.out.cell 1
        have f0 := HRB.out.frozen 0
        have f1 := HRB.out.frozen 1
        have t0 := fun u => (HRB.out.set_ 0 u).frozen 1
        have t1 := fun u => (HRB.out.set_ 0 u).cell 1
        go_wp2
        obtain ⟨y0, y1, hy⟩ := res2 HRB.out HXE.out HPS.out (.bool false) (.int .i64 0)
        generalize ((wz.setCell ⟨nr, 0, none⟩ (.bool false)).setCell ⟨nr, 1, none⟩ (.int .i64 0)) = wr9 at *
        exact bodyPost_ret (v := .tuple #[.agg #[.bool false, .int .i64 0], .bool false]) (by simp [results, Try.results40, go_sem, y0, y1]) rfl ⟨by rw [HR2.out]; rfl, hy⟩
      · have HL0 := Lib.hid hl0
        obtain ⟨ln, hlnl, i0, -, hlq, hN, h9, hb1, hb2, hi, hin, hhd, hlp, hi0, hin2⟩ := HLP.out (by omega)
        have hir : ∃ ir, l[ln].ins = i0 :: ir := by
          rw [hN] at hhd
          cases hins : l[ln].ins with
          | nil => rw [hins] at hi; simp at hi
          | cons x ir => rw [hins] at hhd; exact ⟨ir, by rw [← hhd]; rfl⟩
        obtain ⟨ir, hir⟩ := hir
        have HVZ := HV0.out.ext HXE.out
        obtain ⟨bA, oA, u7, b7, hAA, e0, e1, e2, e3, e4, e5, hu7, hb7⟩ := HVZ.at_ hlnl
        rw [hir] at hu7
        obtain ⟨Au, cu, rfl⟩ := hu7.form
        obtain ⟨Ab, cb, rfl⟩ := hb7.form
        obtain ⟨bU7, oU7, hAu, hcU7⟩ := hu7.at_ (i := 0) (by simp)
        have i0c : wz.cell? ⟨bU7, oU7, none⟩ = some (.int .i64 i0) := by have := hcU7 0 _ rfl; simpa using this
        have hil : ((0 : Int) < ((i0 :: ir).length : Int)) := by simp
        have HAR3 := Lib.hid (show AF = if ((p1, p2) : Int × Int) = IP ∧ opq = 10 then some (true, 0) else if ((p1, p2) : Int × Int) = LP ∧ (opq = 10 ∨ opq = 11) then some (false, 1) else if ((p1, p2) : Int × Int) = LP ∧ opq = 9 then some (true, 0) else none from by rw [HAR2.out, if_neg hl0])
        have hq1 : (ln : Int) < (l.length : Int) := by omega
        have HLN := Lib.hid hlnl
        generalize l[ln].body = body7 at *
        obtain ⟨bn, hbn⟩ : ∃ bn, body7.length = bn + 1 := ⟨body7.length - 1, by omega⟩
        have u1 : ((body7.length : Int) - 1) = (bn : Int) := by omega
        have u2 : IntKind.i64.wrap (bn : Int) = (bn : Int) := IntWalk.i64_in _ (by omega)
        have hLP : LP = ((ln : Int), (bn : Int)) := by rw [hlp, show body7.length - 1 = bn from by omega]
        rw [hin, hLP] at HAR3
        generalize (i0 :: ir).length = il at *
        have hbl9 : (body7.length : Int) ≤ 100 := by omega
        have HIN := Lib.hid hin2
        subst hlq hAA hAu
        clear hl0 HAR2 HLP hN h9 hb1 hb2 hi hin hhd hlp hir hbn hLP e0 e2 e3 e4 hu7 hb7 hcU7 HVZ HND HUS HLO HUL HOP HV0 HU4 HUR HNO HL0
        have g0 : wz.cell? ⟨n, 0, none⟩ = some (.slice (some ⟨bA, oA, none⟩) l.length c) := HBR.out.g.cell 0
        go_upto_region 12 with fail
        have HX11 := Lib.hid ((Ext.refl wz).alloc (.cells #[.int .i64 (ln : Int), .int .i64 (bn : Int)] 26))
        have HLL := Lib.hid (Blk.new wz 26 #[.int .i64 (ln : Int), .int .i64 (bn : Int)])
        have E1 := HX11.out.cell e1
        have E2 := HX11.out.cell i0c
        have E3 := HX11.out.cell g0
        obtain ⟨pl, hpl⟩ : ∃ p, p = wz.heap.size := ⟨_, rfl⟩
        rw [← hpl] at HLL ⊢
        clear hpl e1 e5 i0c g0
        generalize wz.alloc (.cells #[.int .i64 (ln : Int), .int .i64 (bn : Int)] 26) = w11 at *
        go_upto_region 13 with fail
        have HX12 := Lib.hid ((Ext.refl w11).alloc (.cells #[.int .i64 i0, .int .i64 (-1)] 26))
        have HII := Lib.hid (Blk.new w11 26 #[.int .i64 i0, .int .i64 (-1)])
        obtain ⟨pi, hpi⟩ : ∃ p, p = w11.heap.size := ⟨_, rfl⟩
        rw [← hpi] at HII ⊢
        clear hpi E1 E2 E3
        generalize w11.alloc (.cells #[.int .i64 i0, .int .i64 (-1)] 26) = wq at *
        have HXZ := Lib.hid (HX11.out.trans HX12.out)
        have HXW := Lib.hid (HXE.out.trans HXZ.out)
        have HRW := Lib.hid (HRB.out.ext HXZ.out)
        have HBW := Lib.hid (HBR.out.ext HXZ.out)
        have HNW := Lib.hid (HN4.out.ext (HE.out.trans HXZ.out))
        have HLW := Lib.hid (HLL.out.ext HX12.out)
        clear HXE HRB HBR HN4 HLL HX11 HX12 HXZ
        have HXE := HXW
        have HRB := HRW
        clear HB4 HX4 HE HXW HRW
        have a0 : wq.cell? ⟨q8, 0, none⟩ = some (.int .i64 opq) := HNW.out.cell 0
        have c2 : wq.cell? ⟨n + 1, 0, none⟩ = some (.int .i64 p1) := HBW.out.p.cell 0
        have c3 : wq.cell? ⟨n + 1, 1, none⟩ = some (.int .i64 p2) := HBW.out.p.cell 1
        have d0 : wq.cell? ⟨pl, 0, none⟩ = some (.int .i64 (ln : Int)) := HLW.out.cell 0
        have d1 : wq.cell? ⟨pl, 1, none⟩ = some (.int .i64 (bn : Int)) := HLW.out.cell 1
        have b0 : wq.cell? ⟨pi, 0, none⟩ = some (.int .i64 i0) := HII.out.cell 0
        have b1 : wq.cell? ⟨pi, 1, none⟩ = some (.int .i64 (-1)) := HII.out.cell 1
        have heqI := eqPlD p1 p2 i0 (-1)
        have heqL := eqPlD p1 p2 (ln : Int) (bn : Int)
        clear hil hq1 u1 u2 hbl9
        have s0 := HRB.out.cell 0
        have s1 := HRB.out.cell 1
        have f0 := HRB.out.frozen 0
        have f1 := HRB.out.frozen 1
        have t0 := fun u => (HRB.out.set_ 0 u).frozen 1
        have t1 := fun u => (HRB.out.set_ 0 u).cell 1
        by_cases hI : ((p1, p2) : Int × Int) = (i0, -1)
        · have hIL : ¬ ((p1, p2) : Int × Int) = ((ln : Int), (bn : Int)) := by rw [hI]; intro e; injection e with a b; omega
          rw [decide_eq_true hI] at heqI
          rw [decide_eq_false hIL] at heqL
          by_cases o10 : opq = 10
          · have HR2 := Lib.hid (show AF = some (true, 0) from by rw [HAR3.out, if_pos ⟨hI, o10⟩])
            have t10 : ((opq : Int) == 10) = true := by simpa using o10
            clear o10 hI hIL
            go_wp2
            obtain ⟨y0, y1, hy⟩ := res2 HRB.out HXE.out HPS.out (.bool true) (.int .i64 0)
            generalize ((wq.setCell ⟨nr, 0, none⟩ (.bool true)).setCell ⟨nr, 1, none⟩ (.int .i64 0)) = wr9 at *
            exact bodyPost_ret (v := .tuple #[.agg #[.bool true, .int .i64 0], .bool true]) (by simp [results, Try.results40, go_sem, y0, y1]) rfl ⟨by rw [HR2.out]; rfl, hy⟩
          · have HR2 := Lib.hid (show AF = none from by rw [HAR3.out, if_neg (fun e => o10 e.2), if_neg (fun e => hIL e.1), if_neg (fun e => hIL e.1)])
            have t10 : ((opq : Int) == 10) = false := by simpa using o10
            clear o10 hI hIL
            go_wp2
            obtain ⟨y0, y1, hy⟩ := res2 HRB.out HXE.out HPS.out (.bool false) (.int .i64 0)
            generalize ((wq.setCell ⟨nr, 0, none⟩ (.bool false)).setCell ⟨nr, 1, none⟩ (.int .i64 0)) = wr9 at *
            exact bodyPost_ret (v := .tuple #[.agg #[.bool false, .int .i64 0], .bool false]) (by simp [results, Try.results40, go_sem, y0, y1]) rfl ⟨by rw [HR2.out]; rfl, hy⟩
        · rw [decide_eq_false hI] at heqI
          by_cases hL : ((p1, p2) : Int × Int) = ((ln : Int), (bn : Int))
          · rw [decide_eq_true hL] at heqL
            by_cases o10 : opq = 10
            · have HR2 := Lib.hid (show AF = some (false, 1) from by rw [HAR3.out, if_neg (fun e => hI e.1), if_pos ⟨hL, .inl o10⟩])
              have t10 : ((opq : Int) == 10) = true := by simpa using o10
              clear o10 hI hL
              go_wp2
              obtain ⟨y0, y1, hy⟩ := res2 HRB.out HXE.out HPS.out (.bool false) (.int .i64 1)
              generalize ((wq.setCell ⟨nr, 0, none⟩ (.bool false)).setCell ⟨nr, 1, none⟩ (.int .i64 1)) = wr9 at *
              exact bodyPost_ret (v := .tuple #[.agg #[.bool false, .int .i64 1], .bool true]) (by simp [results, Try.results40, go_sem, y0, y1]) rfl ⟨by rw [HR2.out]; rfl, hy⟩
            · have t10 : ((opq : Int) == 10) = false := by simpa using o10
              by_cases o11 : opq = 11
              · have HR2 := Lib.hid (show AF = some (false, 1) from by rw [HAR3.out, if_neg (fun e => hI e.1), if_pos ⟨hL, .inr o11⟩])
                have t11 : ((opq : Int) == 11) = true := by simpa using o11
                clear o10 o11 hI hL
                go_wp2
                obtain ⟨y0, y1, hy⟩ := res2 HRB.out HXE.out HPS.out (.bool false) (.int .i64 1)
                generalize ((wq.setCell ⟨nr, 0, none⟩ (.bool false)).setCell ⟨nr, 1, none⟩ (.int .i64 1)) = wr9 at *
                exact bodyPost_ret (v := .tuple #[.agg #[.bool false, .int .i64 1], .bool true]) (by simp [results, Try.results40, go_sem, y0, y1]) rfl ⟨by rw [HR2.out]; rfl, hy⟩
              · have t11 : ((opq : Int) == 11) = false := by simpa using o11
                have HAR4 := Lib.hid (show AF = if ((p1, p2) : Int × Int) = ((ln : Int), (bn : Int)) ∧ opq = 9 then some (true, 0) else none from by rw [HAR3.out, if_neg (fun e => hI e.1), if_neg (fun e => by rcases e.2 with e | e; exact o10 e; exact o11 e)])
                by_cases o9 : opq = 9
                · have HR2 := Lib.hid (show AF = some (true, 0) from by rw [HAR4.out, if_pos ⟨hL, o9⟩])
                  have t9 : ((opq : Int) == 9) = true := by simpa using o9
                  clear o10 o11 o9 hI hL
                  go_wp2
                  obtain ⟨y0, y1, hy⟩ := res2 HRB.out HXE.out HPS.out (.bool true) (.int .i64 0)
                  generalize ((wq.setCell ⟨nr, 0, none⟩ (.bool true)).setCell ⟨nr, 1, none⟩ (.int .i64 0)) = wr9 at *
                  exact bodyPost_ret (v := .tuple #[.agg #[.bool true, .int .i64 0], .bool true]) (by simp [results, Try.results40, go_sem, y0, y1]) rfl ⟨by rw [HR2.out]; rfl, hy⟩
                · have HR2 := Lib.hid (show AF = none from by rw [HAR4.out, if_neg (fun e => o9 e.2)])
                  have t9 : ((opq : Int) == 9) = false := by simpa using o9
                  clear o10 o11 o9 hI hL
                  go_wp2
                  obtain ⟨y0, y1, hy⟩ := res2 HRB.out HXE.out HPS.out (.bool false) (.int .i64 0)
                  generalize ((wq.setCell ⟨nr, 0, none⟩ (.bool false)).setCell ⟨nr, 1, none⟩ (.int .i64 0)) = wr9 at *
                  exact bodyPost_ret (v := .tuple #[.agg #[.bool false, .int .i64 0], .bool false]) (by simp [results, Try.results40, go_sem, y0, y1]) rfl ⟨by rw [HR2.out]; rfl, hy⟩
          · rw [decide_eq_false hL] at heqL
            have HR2 := Lib.hid (show AF = none from by rw [HAR3.out, if_neg (fun e => hI e.1), if_neg (fun e => hL e.1), if_neg (fun e => hL e.1)])
            clear hI hL
            go_wp2
            obtain ⟨y0, y1, hy⟩ := res2 HRB.out HXE.out HPS.out (.bool false) (.int .i64 0)
            generalize ((wq.setCell ⟨nr, 0, none⟩ (.bool false)).setCell ⟨nr, 1, none⟩ (.int .i64 0)) = wr9 at *
            exact bodyPost_ret (v := .tuple #[.agg #[.bool false, .int .i64 0], .bool false]) (by simp [results, Try.results40, go_sem, y0, y1]) rfl ⟨by rw [HR2.out]; rfl, hy⟩
end Go.Proofs.Ytcacicgkebcdkaa
