/-
  The document's run.
-/
import Derived.Test.YtbokblklldphgaaRunFr
import Derived.Test.YtbokblklldphgaaMomFR2
namespace Go.Proofs.Ytbokblklldphgaa
open Go.RowKit Go.Ox Go.Shelf
attribute [local irreducible] OE RE RP OP
set_option linter.unusedVariables false
set_option linter.unusedSimpArgs false

theorem filt_s (S : List Ent.E) (m : Int × Int) {k : Nat} (h : k < S.length) : ((S.take (k + 1)).filter fun x => decide (x.1 = m)) = ((S.take k).filter fun x => decide (x.1 = m)) ++ (if S[k].1 = m then [S[k]] else []) := by
  rw [List.take_succ_eq_append_getElem h, List.filter_append]
  congr 1
  by_cases q : S[k].1 = m <;> simp [q]
theorem rfront_short (l : List Mom.M) : (Mom.rfront l).length ≤ l.length := by
  have h : ∀ (s out : List Mom.M), (s.foldl Mom.step out).length ≤ out.length + s.length := by
    intro s
    induction s with
    | nil => exact fun out => by simp
    | cons m s ih =>
      intro out
      rw [List.foldl_cons, List.length_cons]
      have h1 := ih (Mom.step out m)
      have h2 : (Mom.step out m).length ≤ out.length + 1 := by unfold Mom.step; split <;> simp
      omega
  have hp := List.mergeSort_perm l (fun a b => decide (¬ Mom.lt b a))
  have hs := List.pairwise_mergeSort (le := fun a b : Mom.M => decide (¬ Mom.lt b a)) (fun a b c h1 h2 => by
      simp only [decide_eq_true_eq] at *
      unfold Mom.lt at *; omega) (fun a b => by
      simp only [Bool.or_eq_true, decide_eq_true_eq]
      unfold Mom.lt at *; omega) l
  rw [← Mom.front_eq (l := l) (hs.imp fun h => by simpa using h) fun k => hp.mem_iff.symm]
  have h1 := h (l.mergeSort (fun a b => decide (¬ Mom.lt b a))) []
  rw [hp.length_eq] at h1
  unfold Mom.front
  simpa using h1
set_option maxRecDepth 100000 in
set_option maxHeartbeats 400000 in
theorem rnew_bad (n : Int) (w : World) (hn : n < 1 ∨ 4096 < n) :
    Calls Try.prog 16 #[.int .i64 n] w fun e w' => e = .returned (.pointer none) ∧ w = w' := by
  by_cases h1 : n < 1
  · clear hn
    go_enter Try.func16, Try.ntmps16
    go_wp2
    go_ret
    exact ⟨rfl, rfl⟩
  · have h2 : 4096 < n := by omega
    clear hn
    go_enter Try.func16, Try.ntmps16
    go_wp2
    go_ret
    exact ⟨rfl, rfl⟩
set_option maxRecDepth 100000 in
set_option maxHeartbeats 400000 in
theorem rnew_ok (n : Int) (w : World) (hn : 1 ≤ n) (hm : n ≤ 4096) :
    Calls Try.prog 16 #[.int .i64 n] w fun e w' => e = .returned (.pointer (some ⟨w.heap.size, 0, none⟩)) ∧ RunI 49 w' w.heap.size (.slice none 0 0) [] n 0 ∧ Ext w w' := by
  have g1 : ¬ n < 1 := by omega
  have g2 : ¬ 4096 < n := by omega
  have HI := Lib.hid (show RunI 49 (w.alloc (.cells #[.slice none 0 0, .int .i64 n, .int .i64 0] 49)) w.heap.size (.slice none 0 0) [] n 0 from ⟨Blk.new _ _ _, OE.nilS _ _ _, ⟨hn, hm⟩, by simp; omega, by omega, by omega⟩)
  have HX := Lib.hid ((Ext.refl w).alloc (.cells #[.slice none 0 0, .int .i64 n, .int .i64 0] 49))
  clear hn hm
  go_enter Try.func16, Try.ntmps16
  go_wp2
  go_ret
  exact ⟨rfl, HI.out, HX.out⟩
set_option maxRecDepth 100000 in
set_option maxHeartbeats 4000000 in
theorem radd_any (x : Ent.E) {w : World} {g : Nat} {lv : Value} {l : List Ent.E} {a b : Int} (h : RunI 49 w g lv l a b) : Calls Try.prog 32 #[.pointer (some ⟨g, 0, none⟩), entV x] w (AddP 49 w g lv l a b x) := by
  have HCK := Lib.hid (fun w => rcheckE_any x w)
  have HNOT := Lib.hid (fun e w' h1 h2 h3 => @AddP.not _ w w' g lv l a b x e h h1 h2 h3)
  have HYES := Lib.hid (fun w5 w6 v' h1 h2 h3 h4 h5 => @AddP.yes _ w w5 w6 g lv v' l a b x h h1 h2 h3 h4 h5)
  have HLAST := Lib.hid (fun w8 v' b' e h1 h2 h3 h4 h5 h6 h7 => @AddP.last _ w w8 g lv v' l a b b' x e h h1 h2 h3 h4 h5 h6 h7)
  have HSAME := Lib.hid (fun w8 v' e h1 h2 h3 h4 h5 h6 => @AddP.same 49 w w8 g lv v' l a b x e h1 h2 h3 h4 h5 h6)
  have HI := Lib.hid h
  have HBD := Lib.hid h.bd
  have HBAD := Lib.hid (@addE_bad l a x)
  have HFULL := Lib.hid (@addE_full l a x)
  have HOK := Lib.hid (@addE_ok l a x)
  have HMOST := Lib.hid h.most
  have HHI := Lib.hid h.lim
  obtain ⟨⟨x1, x2⟩, x3, x4⟩ := x
  have HX0 := Lib.hid ((Ext.refl w).alloc (.cells #[.int .i64 x1, .int .i64 x2, .int .i64 x3, .int .i64 x4] 33))
  have HB0 := Lib.hid (Bx4.new w 33 x1 x2 x3 x4)
  generalize Ent.okE ((x1, x2), x3, x4) = ok at *
  obtain ⟨A, c, rfl⟩ := h.own.re.form
  clear h
  go_enter Try.func32, Try.ntmps32
  go_upto_region 1 with fail
  generalize w.heap.size = p at *
  generalize w.alloc (.cells #[.int .i64 x1, .int .i64 x2, .int .i64 x3, .int .i64 x4] 33) = w0 at *
  obtain ⟨y0, y1, y2, y3⟩ := HB0.out
  go_wp2_with fail
  refine (HCK.out _).mono ?_
  rintro e w1 ⟨rfl, he1⟩
  have HX1 := Lib.hid (HX0.out.trans he1)
  have HB1 := Lib.hid (HB0.out.ext he1)
  clear he1 y0 y1 y2 y3
  by_cases hok : ok = 0
  · have HFU2 := Lib.hid (fun h => HFULL.out hok h)
    have HOK2 := Lib.hid (fun h => HOK.out hok h)
    clear HFULL HOK HBAD
    subst hok
    obtain ⟨y0, y1, y2, y3⟩ := HB1.out
    have HI1 := Lib.hid (HI.out.ext HX1.out)
    obtain ⟨c0, c1, c2, f0, f2⟩ := HI1.out.cells
    have hbd : l.length ≤ 4096 := HBD.out
    go_wp2
    refine wp_regionY [] [] Ext Ext (fun _ => True) (by kernel_rfl) (by rfl) (by rfl) (by kernel_rfl) (by kernel_rfl) (by kernel_rfl) (fun _ _ _ x y => x.trans y) Ext.refl (fun _ _ x => x) (Ext.refl _).drew (fun _ _ x _ => x) trivial ?_
    repeat (first | (refine wpY_move0 rfl rfl (by first | exact runs0 | exact runs1 rfl) Ext.refl rfl rfl rfl ?_; apply Exists.intro; refine ⟨?_, ?_⟩; · (go_simp; rfl)) | (refine wpY_move rfl rfl (by first | exact runs0 | exact runs1 rfl) Ext.refl rfl rfl rfl (fun _ _ _ h _ => h) ?_) | (refine wpY_val rfl rfl (by first | exact runs0 | exact runs1 rfl) Ext.refl rfl ?_; apply Exists.intro; refine ⟨?_, ?_⟩; · (intro a w' hR; intro h1; (first | (have e1 : _ = _ := h1) | skip); intro h2; (first | (have e2 : _ = _ := h2) | skip); go_simp; rfl)) | (refine wpY_val rfl rfl (by first | exact runs0 | exact runs1 rfl) Ext.refl rfl ?_; apply Exists.intro; refine ⟨?_, ?_⟩; · (intro a w' hR; intro h1; (first | (have e1 : _ = _ := h1) | skip); go_simp; rfl)) | (refine wpY_val rfl rfl (by first | exact runs0 | exact runs1 rfl) Ext.refl rfl ?_; apply Exists.intro; refine ⟨?_, ?_⟩; · (intro a w' hR; go_simp; rfl)) | (refine wpY_val rfl rfl (by first | exact runs0 | exact runs1 rfl) Ext.refl rfl ?_; apply Exists.intro; refine ⟨?_, ?_⟩; · (intro a w' hR; intro h1; (first | (have e1 : _ = _ := h1) | skip); intro h2; (first | (have e2 : _ = _ := h2) | skip); intro h3; (first | (have e3 : _ = _ := h3) | skip); go_simp; rfl)) | (refine wpY_skip rfl rfl (by first | exact .inl rfl | exact .inr rfl) ?_))
    refine wpY_val rfl rfl (by first | exact runs0 | exact runs1 rfl) Ext.refl rfl ?_; apply Exists.intro; refine ⟨?_, ?_⟩
    · intro a w' hR h1
      have e1 : _ = _ := h1
      have hl0 := hR.cell c0
      go_simp
      rfl
    repeat (first | (refine wpY_move0 rfl rfl (by first | exact runs0 | exact runs1 rfl) Ext.refl rfl rfl rfl ?_; apply Exists.intro; refine ⟨?_, ?_⟩; · (go_simp; rfl)) | (refine wpY_move rfl rfl (by first | exact runs0 | exact runs1 rfl) Ext.refl rfl rfl rfl (fun _ _ _ h _ => h) ?_) | (refine wpY_val rfl rfl (by first | exact runs0 | exact runs1 rfl) Ext.refl rfl ?_; apply Exists.intro; refine ⟨?_, ?_⟩; · (intro a w' hR; intro h1; (first | (have e1 : _ = _ := h1) | skip); intro h2; (first | (have e2 : _ = _ := h2) | skip); go_simp; rfl)) | (refine wpY_val rfl rfl (by first | exact runs0 | exact runs1 rfl) Ext.refl rfl ?_; apply Exists.intro; refine ⟨?_, ?_⟩; · (intro a w' hR; intro h1; (first | (have e1 : _ = _ := h1) | skip); go_simp; rfl)) | (refine wpY_val rfl rfl (by first | exact runs0 | exact runs1 rfl) Ext.refl rfl ?_; apply Exists.intro; refine ⟨?_, ?_⟩; · (intro a w' hR; go_simp; rfl)) | (refine wpY_val rfl rfl (by first | exact runs0 | exact runs1 rfl) Ext.refl rfl ?_; apply Exists.intro; refine ⟨?_, ?_⟩; · (intro a w' hR; intro h1; (first | (have e1 : _ = _ := h1) | skip); intro h2; (first | (have e2 : _ = _ := h2) | skip); intro h3; (first | (have e3 : _ = _ := h3) | skip); go_simp; rfl)) | (refine wpY_skip rfl rfl (by first | exact .inl rfl | exact .inr rfl) ?_))
    refine wpY_val rfl rfl (by first | exact runs0 | exact runs1 rfl) Ext.refl rfl ?_; apply Exists.intro; refine ⟨?_, ?_⟩
    · intro a w' hR h1
      have e1 : _ = _ := h1
      have hl0 := hR.cell c1
      go_simp
      rfl
    repeat (first | (refine wpY_move0 rfl rfl (by first | exact runs0 | exact runs1 rfl) Ext.refl rfl rfl rfl ?_; apply Exists.intro; refine ⟨?_, ?_⟩; · (go_simp; rfl)) | (refine wpY_move rfl rfl (by first | exact runs0 | exact runs1 rfl) Ext.refl rfl rfl rfl (fun _ _ _ h _ => h) ?_) | (refine wpY_val rfl rfl (by first | exact runs0 | exact runs1 rfl) Ext.refl rfl ?_; apply Exists.intro; refine ⟨?_, ?_⟩; · (intro a w' hR; intro h1; (first | (have e1 : _ = _ := h1) | skip); intro h2; (first | (have e2 : _ = _ := h2) | skip); go_simp; rfl)) | (refine wpY_val rfl rfl (by first | exact runs0 | exact runs1 rfl) Ext.refl rfl ?_; apply Exists.intro; refine ⟨?_, ?_⟩; · (intro a w' hR; intro h1; (first | (have e1 : _ = _ := h1) | skip); go_simp; rfl)) | (refine wpY_val rfl rfl (by first | exact runs0 | exact runs1 rfl) Ext.refl rfl ?_; apply Exists.intro; refine ⟨?_, ?_⟩; · (intro a w' hR; go_simp; rfl)) | (refine wpY_val rfl rfl (by first | exact runs0 | exact runs1 rfl) Ext.refl rfl ?_; apply Exists.intro; refine ⟨?_, ?_⟩; · (intro a w' hR; intro h1; (first | (have e1 : _ = _ := h1) | skip); intro h2; (first | (have e2 : _ = _ := h2) | skip); intro h3; (first | (have e3 : _ = _ := h3) | skip); go_simp; rfl)) | (refine wpY_skip rfl rfl (by first | exact .inl rfl | exact .inr rfl) ?_))
    refine wpY_done ?_
    intro w2 hx2 hS
    iterate 10 (rintro _ rfl)
    dsimp only [FinV]
    go_simp
    have hx2 : Ext w1 w2 := hx2
    have HX2 := Lib.hid (HX1.out.trans hx2)
    have HB2 := Lib.hid (HB1.out.ext hx2)
    have HI2 := Lib.hid (HI1.out.ext hx2)
    clear c0 c1 c2 f0 f2 y0 y1 y2 y3 hx2 hS
    by_cases hf : a ≤ (l.length : Int)
    · have HE := Lib.hid (HFU2.out (by omega))
      go_wp2
      go_ret
      exact HNOT.out _ _ (by rw [HE.out]; decide) (by rw [HE.out]; rfl) HX2.out
    · have HE := Lib.hid (HOK2.out (by omega))
      have HLT := Lib.hid (show (l.length : Int) < a by omega)
      obtain ⟨y0, y1, y2, y3⟩ := HB2.out
      obtain ⟨c0, c1, c2, f0, f2⟩ := HI2.out.cells
      have HO2 := Lib.hid HI2.out.own
      have HSZ2 := Lib.hid (show g + 1 ≤ w2.heap.size from HI2.out.blk.lt)
      go_upto_region 6 with fail
      refine wp_region_tailZ 10 [28] [25, 26, 27] Ext (fun a b => a.grownBy b (Value.ownBlock (.slice A l.length c))) (Ext _) (by kernel_rfl) (by kernel_rfl) (by kernel_rfl) (by kernel_rfl) (by kernel_rfl) (by kernel_rfl) (by kernel_rfl) (by rfl) (by rfl) (by kernel_rfl) (by kernel_rfl) (by kernel_rfl) (fun _ _ _ x y => x.trans y) (fun _ => World.grownBy.refl _ _) (fun _ _ x => ⟨x.os, x.tape, x.output, x.size, fun _ hk _ => x.block hk⟩) Ext.refl (Ext.refl _).drew (fun _ _ x y => x.trans y) (Ext.refl _) ?_
      repeat (first | (refine wpZ_move0 rfl rfl (fun _ => (by first | exact runs0 | exact runs1 rfl)) Ext.refl rfl rfl (fun _ => rfl) ?_; apply Exists.intro; refine ⟨?_, ?_⟩; · (go_simp; rfl)) | (refine wpZ_val rfl rfl (fun _ => (by first | exact runs0 | exact runs1 rfl)) Ext.refl rfl ?_; apply Exists.intro; refine ⟨?_, ?_⟩; · (intro c a w' hR; intro h1; (first | (have e1 : _ = _ := h1) | skip); intro h2; (first | (have e2 : _ = _ := h2) | skip); go_simp; rfl)) | (refine wpZ_val rfl rfl (fun _ => (by first | exact runs0 | exact runs1 rfl)) Ext.refl rfl ?_; apply Exists.intro; refine ⟨?_, ?_⟩; · (intro c a w' hR; intro h1; (first | (have e1 : _ = _ := h1) | skip); go_simp; rfl)) | (refine wpZ_val rfl rfl (fun _ => (by first | exact runs0 | exact runs1 rfl)) Ext.refl rfl ?_; apply Exists.intro; refine ⟨?_, ?_⟩; · (intro c a w' hR; go_simp; rfl)) | (refine wpZ_val rfl rfl (fun _ => (by first | exact runs0 | exact runs1 rfl)) Ext.refl rfl ?_; apply Exists.intro; refine ⟨?_, ?_⟩; · (intro c a w' hR; intro h1; (first | (have e1 : _ = _ := h1) | skip); intro h2; (first | (have e2 : _ = _ := h2) | skip); intro h3; (first | (have e3 : _ = _ := h3) | skip); go_simp; rfl)))
      refine wpZ_callA (fun _ v _ => v = .slice A l.length c) rfl rfl (by first | exact runs0 | exact runs1 rfl) rfl (keptC_eq) ?_ ?_
      · intro a w' hR hS h1 K hK
        have e1 : _ = _ := h1
        have hl := (show Ext w2 w' from hS).cell c0
        go_simp
        exact hK _ _ (Ext.refl _) rfl
      refine wpZ_callA (fun _ v _ => v = .agg #[.int .i64 x1, .int .i64 x2, .int .i64 x3, .int .i64 x4]) rfl rfl (by first | exact runs0 | exact runs1 rfl) rfl (keptC_eq) ?_ ?_
      · intro a w' hR hS h1 K hK
        have e1 : _ = _ := h1
        have hl0 := (show Ext w2 w' from hS).cell y0
        have hl1 := (show Ext w2 w' from hS).cell y1
        have hl2 := (show Ext w2 w' from hS).cell y2
        have hl3 := (show Ext w2 w' from hS).cell y3
        go_simp
        exact hK _ _ (Ext.refl _) rfl
      refine wpZ_callA (fun c v w => c ≤ 0 → RE w v [(((x1, x2), x3, x4) : Ent.E)]) rfl rfl (by first | exact runs0 | exact runs1 rfl) rfl (keptC_0 fun _ _ _ h k => RE.ext h k) ?_ ?_
      · intro a w' hR hS h1 K hK
        have e1 : _ = _ := h1
        have q9 : a.tmps[26]?.getD undef = .agg #[.int .i64 x1, .int .i64 x2, .int .i64 x3, .int .i64 x4] := by simpa using e1
        go_simp
        exact hK _ _ ((Ext.refl _).alloc _) fun _ => RE.lit _ #[.int .i64 x1, .int .i64 x2, .int .i64 x3, .int .i64 x4] 33 1 [(((x1, x2), x3, x4) : Ent.E)] rfl (by omega) rfl
      refine wpZ_eff (fun c9 v w => 1 ≤ c9 ∧ (c9 ≤ 1 → GrownE (g + 1) w2.heap.size (Value.ownBlock (.slice A l.length c)) (l ++ [(((x1, x2), x3, x4) : Ent.E)]) v w)) (fun _ => True) rfl (by first | exact runs0 | exact runs1 rfl) rfl (keptC_at fun _ _ _ h k => GrownE.ext h k) (fun _ _ _ _ => trivial) ?_ ?_
      · intro a w' hR hS h1 h2 K hK
        have e1 : _ = _ := h1
        obtain ⟨y, ey, fy⟩ : ∃ x, a.tmps.getD 27 undef = x ∧ (fun v w => 0 ≤ 0 → RE w v [(((x1, x2), x3, x4) : Ent.E)]) x w' := ⟨_, rfl, h2⟩
        have hfy := fy (Nat.le_refl _)
        have hS' : Ext w2 w' := hS
        refine wp_app elemE _ (.tmp 25) (.tmp 27) rfl (g + 1) _ l.length (eV l) e1 (HO2.out.ext hS').own y 1 (eV [(((x1, x2), x3, x4) : Ent.E)]) ey (RE.rd hfy) (one_eV _) (by have := HBD.out; omega) (by have := HBD.out; unfold maxLen; omega) (Nat.le_trans HSZ2.out hS'.size) ?_
        intro v' w2 ha
        exact hK _ _ ha.grown trivial ⟨Nat.le_refl _, fun _ => ⟨OE.app ha.own, ha.at_.imp_right fun h => ⟨_, h, hS'.size⟩⟩⟩
      repeat (first | (refine wpZ_move0 rfl rfl (fun _ => (by first | exact runs0 | exact runs1 rfl)) Ext.refl rfl rfl (fun _ => rfl) ?_; apply Exists.intro; refine ⟨?_, ?_⟩; · (go_simp; rfl)) | (refine wpZ_val rfl rfl (fun _ => (by first | exact runs0 | exact runs1 rfl)) Ext.refl rfl ?_; apply Exists.intro; refine ⟨?_, ?_⟩; · (intro c a w' hR; intro h1; (first | (have e1 : _ = _ := h1) | skip); intro h2; (first | (have e2 : _ = _ := h2) | skip); go_simp; rfl)) | (refine wpZ_val rfl rfl (fun _ => (by first | exact runs0 | exact runs1 rfl)) Ext.refl rfl ?_; apply Exists.intro; refine ⟨?_, ?_⟩; · (intro c a w' hR; intro h1; (first | (have e1 : _ = _ := h1) | skip); go_simp; rfl)) | (refine wpZ_val rfl rfl (fun _ => (by first | exact runs0 | exact runs1 rfl)) Ext.refl rfl ?_; apply Exists.intro; refine ⟨?_, ?_⟩; · (intro c a w' hR; go_simp; rfl)) | (refine wpZ_val rfl rfl (fun _ => (by first | exact runs0 | exact runs1 rfl)) Ext.refl rfl ?_; apply Exists.intro; refine ⟨?_, ?_⟩; · (intro c a w' hR; intro h1; (first | (have e1 : _ = _ := h1) | skip); intro h2; (first | (have e2 : _ = _ := h2) | skip); intro h3; (first | (have e3 : _ = _ := h3) | skip); go_simp; rfl)))
      refine wpZ_done ?_
      intro w6 hx6 hS6
      iterate 6 (rintro _ rfl)
      rintro v27 h27
      rintro v28 h28
      iterate 2 (rintro _ rfl)
      dsimp only [FinV]
      go_simp
      have hx6 : w2.grownBy w6 (Value.ownBlock (.slice A l.length c)) := hx6
      have hgr := h28.2 (Nat.le_refl _)
      obtain ⟨hi6, hnq6, hq6, hb6⟩ := HYES.out w2 w6 v28 HE.out HX2.out hx6 hgr HLT.out
      have f0 : w6.frozen? ⟨g, 0, none⟩ = false := hb6.frozen 0
      have d0 : w6.cell? ⟨g, 0, none⟩ = some (.slice A l.length c) := hb6.cell 0
      obtain ⟨A31, c31, hv31⟩ := hgr.own.re.form
      have hel : addL l a ((x1, x2), x3, x4) = l ++ [((x1, x2), x3, x4)] := (add_yes (b := b) HE.out).1
      have HI6 := Lib.hid hi6
      have HQ6 := Lib.hid hq6
      have HN6 := Lib.hid hnq6
      obtain ⟨n, hn⟩ : ∃ n, n = l.length + 1 := ⟨_, rfl⟩
      rw [List.length_append, List.length_singleton, ← hn] at hv31
      have HN1 := Lib.hid hn
      clear hn hx6 hgr hb6 h27 h28 hS6 hi6 hq6 hnq6 hel
      subst hv31
      simp only [thenTail, List.drop_succ_cons, List.drop_zero]
      go_wp2
      generalize w6.setCell ⟨g, 0, none⟩ (.slice A31 n c31) = w8 at *
      obtain ⟨z0, z1, z2, k0, k2⟩ := HI6.out.cells
      clear c0 c1 c2 d0 f0 f2 y0 y1 y2 y3
      have hnb : n ≤ 5000 := by have := HN1.out; have := HBD.out; omega
      refine wp_regionY [] [] Ext Ext (fun _ => True) (by kernel_rfl) (by rfl) (by rfl) (by kernel_rfl) (by kernel_rfl) (by kernel_rfl) (fun _ _ _ x y => x.trans y) Ext.refl (fun _ _ x => x) (Ext.refl _).drew (fun _ _ x _ => x) trivial ?_
      repeat (first | (refine wpY_move0 rfl rfl (by first | exact runs0 | exact runs1 rfl) Ext.refl rfl rfl rfl ?_; apply Exists.intro; refine ⟨?_, ?_⟩; · (go_simp; rfl)) | (refine wpY_move rfl rfl (by first | exact runs0 | exact runs1 rfl) Ext.refl rfl rfl rfl (fun _ _ _ h _ => h) ?_) | (refine wpY_val rfl rfl (by first | exact runs0 | exact runs1 rfl) Ext.refl rfl ?_; apply Exists.intro; refine ⟨?_, ?_⟩; · (intro a w' hR; intro h1; (first | (have e1 : _ = _ := h1) | skip); intro h2; (first | (have e2 : _ = _ := h2) | skip); go_simp; rfl)) | (refine wpY_val rfl rfl (by first | exact runs0 | exact runs1 rfl) Ext.refl rfl ?_; apply Exists.intro; refine ⟨?_, ?_⟩; · (intro a w' hR; intro h1; (first | (have e1 : _ = _ := h1) | skip); go_simp; rfl)) | (refine wpY_val rfl rfl (by first | exact runs0 | exact runs1 rfl) Ext.refl rfl ?_; apply Exists.intro; refine ⟨?_, ?_⟩; · (intro a w' hR; go_simp; rfl)) | (refine wpY_val rfl rfl (by first | exact runs0 | exact runs1 rfl) Ext.refl rfl ?_; apply Exists.intro; refine ⟨?_, ?_⟩; · (intro a w' hR; intro h1; (first | (have e1 : _ = _ := h1) | skip); intro h2; (first | (have e2 : _ = _ := h2) | skip); intro h3; (first | (have e3 : _ = _ := h3) | skip); go_simp; rfl)) | (refine wpY_skip rfl rfl (by first | exact .inl rfl | exact .inr rfl) ?_))
      refine wpY_val rfl rfl (by first | exact runs0 | exact runs1 rfl) Ext.refl rfl ?_; apply Exists.intro; refine ⟨?_, ?_⟩
      · intro a w' hR h1
        have e1 : _ = _ := h1
        have hl0 := hR.cell z0
        go_simp
        rfl
      repeat (first | (refine wpY_move0 rfl rfl (by first | exact runs0 | exact runs1 rfl) Ext.refl rfl rfl rfl ?_; apply Exists.intro; refine ⟨?_, ?_⟩; · (go_simp; rfl)) | (refine wpY_move rfl rfl (by first | exact runs0 | exact runs1 rfl) Ext.refl rfl rfl rfl (fun _ _ _ h _ => h) ?_) | (refine wpY_val rfl rfl (by first | exact runs0 | exact runs1 rfl) Ext.refl rfl ?_; apply Exists.intro; refine ⟨?_, ?_⟩; · (intro a w' hR; intro h1; (first | (have e1 : _ = _ := h1) | skip); intro h2; (first | (have e2 : _ = _ := h2) | skip); go_simp; rfl)) | (refine wpY_val rfl rfl (by first | exact runs0 | exact runs1 rfl) Ext.refl rfl ?_; apply Exists.intro; refine ⟨?_, ?_⟩; · (intro a w' hR; intro h1; (first | (have e1 : _ = _ := h1) | skip); go_simp; rfl)) | (refine wpY_val rfl rfl (by first | exact runs0 | exact runs1 rfl) Ext.refl rfl ?_; apply Exists.intro; refine ⟨?_, ?_⟩; · (intro a w' hR; go_simp; rfl)) | (refine wpY_val rfl rfl (by first | exact runs0 | exact runs1 rfl) Ext.refl rfl ?_; apply Exists.intro; refine ⟨?_, ?_⟩; · (intro a w' hR; intro h1; (first | (have e1 : _ = _ := h1) | skip); intro h2; (first | (have e2 : _ = _ := h2) | skip); intro h3; (first | (have e3 : _ = _ := h3) | skip); go_simp; rfl)) | (refine wpY_skip rfl rfl (by first | exact .inl rfl | exact .inr rfl) ?_))
      refine wpY_val rfl rfl (by first | exact runs0 | exact runs1 rfl) Ext.refl rfl ?_; apply Exists.intro; refine ⟨?_, ?_⟩
      · intro a w' hR h1
        have e1 : _ = _ := h1
        have hl0 := hR.cell z2
        go_simp
        rfl
      repeat (first | (refine wpY_move0 rfl rfl (by first | exact runs0 | exact runs1 rfl) Ext.refl rfl rfl rfl ?_; apply Exists.intro; refine ⟨?_, ?_⟩; · (go_simp; rfl)) | (refine wpY_move rfl rfl (by first | exact runs0 | exact runs1 rfl) Ext.refl rfl rfl rfl (fun _ _ _ h _ => h) ?_) | (refine wpY_val rfl rfl (by first | exact runs0 | exact runs1 rfl) Ext.refl rfl ?_; apply Exists.intro; refine ⟨?_, ?_⟩; · (intro a w' hR; intro h1; (first | (have e1 : _ = _ := h1) | skip); intro h2; (first | (have e2 : _ = _ := h2) | skip); go_simp; rfl)) | (refine wpY_val rfl rfl (by first | exact runs0 | exact runs1 rfl) Ext.refl rfl ?_; apply Exists.intro; refine ⟨?_, ?_⟩; · (intro a w' hR; intro h1; (first | (have e1 : _ = _ := h1) | skip); go_simp; rfl)) | (refine wpY_val rfl rfl (by first | exact runs0 | exact runs1 rfl) Ext.refl rfl ?_; apply Exists.intro; refine ⟨?_, ?_⟩; · (intro a w' hR; go_simp; rfl)) | (refine wpY_val rfl rfl (by first | exact runs0 | exact runs1 rfl) Ext.refl rfl ?_; apply Exists.intro; refine ⟨?_, ?_⟩; · (intro a w' hR; intro h1; (first | (have e1 : _ = _ := h1) | skip); intro h2; (first | (have e2 : _ = _ := h2) | skip); intro h3; (first | (have e3 : _ = _ := h3) | skip); go_simp; rfl)) | (refine wpY_skip rfl rfl (by first | exact .inl rfl | exact .inr rfl) ?_))
      refine wpY_done ?_
      intro w9 hx9 hS
      iterate 10 (rintro _ rfl)
      dsimp only [FinV]
      go_simp
      have hx9 : Ext w8 w9 := hx9
      have HI9 := Lib.hid (HI6.out.ext hx9)
      obtain ⟨y8, -, y9, -, k9⟩ := HI9.out.cells
      have HQ9 := Lib.hid (HQ6.out.trans (ExtQ.of hx9))
      clear z0 z1 z2 k0 k2
      by_cases hbn : b < (n : Int)
      · go_wp2
        go_ret
        exact HLAST.out w9 _ (n : Int) _ HI9.out HE.out HN6.out HQ9.out (by rw [← HN1.out]; omega) rfl HLT.out
      · go_wp2
        go_ret
        exact HSAME.out w9 _ _ HI9.out HE.out HN6.out HQ9.out (by rw [← HN1.out]; omega) rfl
  · have HE := Lib.hid (HBAD.out hok)
    have hk2 : (ok != 0) = true := by simpa using hok
    clear hok
    go_wp2
    go_ret
    exact HNOT.out _ _ (by rw [HE.out]; simpa using hk2) (by rw [HE.out]; rfl) HX1.out

set_option maxRecDepth 100000 in
set_option maxHeartbeats 2000000 in
theorem rrunKeep_any (u : Value) (f : List (Int × Int)) {w : World} {g : Nat} {lv : Value} {l : List Ent.E} {a b : Int} (h : RunI 49 w g lv l a b) (hu : RP w u f) (hf : f.length ≤ 1000000) :
    Calls Try.prog 34 #[.pointer (some ⟨g, 0, none⟩), u] w fun e w' => e = .returned (.int .i64 ((l.length : Int) - ((Ent.bhd l f).length : Int))) ∧ ∃ lv', RunI 49 w' g lv' (Ent.bhd l f) a b ∧ NewQ w lv lv' ∧ ExtQ (RunQ g lv) w w' := by
  have HBD := Lib.hid h.bd
  have HI := Lib.hid h
  have HGL := Lib.hid h.blk.lt
  have HON := Lib.hid (rbehind_own lv u l f w h.own.re hu (by have := h.bd; omega) hf)
  obtain ⟨A, c, rfl⟩ := h.own.re.form
  obtain ⟨B, d, rfl⟩ := hu.form
  have hbl : (Ent.bhd l f).length ≤ l.length := by have := Ent.bhd_len l f l.length; rwa [List.take_length] at this
  have hwr : IntKind.i64.wrap ((l.length : Int) - ((Ent.bhd l f).length : Int)) = (l.length : Int) - ((Ent.bhd l f).length : Int) := IntWalk.i64_in _ (by have := HBD.out; omega)
  generalize Ent.bhd l f = bh at *
  obtain ⟨c0, c1, c2, f0, f2⟩ := h.cells
  have hbd : l.length ≤ 4096 := HBD.out
  clear h hu
  go_enter Try.func34, Try.ntmps34
  go_wp2_with fail
  refine HON.out.mono ?_
  rintro e w2 ⟨v2, rfl, ho2, he2⟩
  obtain ⟨A2, c2', rfl⟩ := ho2.re.form
  have hb2 := HI.out.blk.ext he2
  have d0 : w2.cell? ⟨g, 0, none⟩ = some (.slice A l.length c) := hb2.cell 0
  have g0 : w2.frozen? ⟨g, 0, none⟩ = false := hb2.frozen 0
  have HI2 := Lib.hid (RunI.put hb2 (ho2.low (show g + 1 ≤ w.heap.size from HGL.out)) HI.out.lim (by have := HI.out.len; omega) HI.out.most)
  have HQ2 := Lib.hid (show ExtQ (RunQ g (.slice A l.length c)) w (w2.setCell ⟨g, 0, none⟩ (.slice A2 bh.length c2')) from ExtQ.setCell (ExtQ.of he2) (p := ⟨g, 0, none⟩) (.inl rfl) _)
  have HN2 := Lib.hid (show NewQ w (.slice A l.length c) (.slice A2 bh.length c2') from fun k hk => .inr (ho2.lt hk).1)
  have e0 : (w2.setCell ⟨g, 0, none⟩ (.slice A2 bh.length c2')).cell? ⟨g, 0, none⟩ = some (.slice A2 bh.length c2') := HI2.out.cells.1
  clear ho2 hb2 he2 c0 c1 c2 f0 f2
  go_wp2
  go_ret
  exact ⟨rfl, _, HI2.out, HN2.out, HQ2.out⟩
set_option maxRecDepth 100000 in
set_option maxHeartbeats 4000000 in
theorem rrunAt_any (m : Int × Int) {w : World} {g : Nat} {lv : Value} {l : List Ent.E} {a b : Int} (h : RunI 49 w g lv l a b) :
    Calls Try.prog 33 #[.pointer (some ⟨g, 0, none⟩), mV m] w fun e w' => ∃ u, e = .returned u ∧ RE w' u ((Ent.srt l).filter fun x => decide (x.1 = m)) ∧ Ext w w' := by
  have HBD := Lib.hid h.bd
  have HSL := Lib.hid (Ent.srt_len l)
  obtain ⟨m1, m2⟩ := m
  have hx0 := (Ext.refl w).alloc (.cells #[.int .i64 m1, .int .i64 m2] 29)
  have HX0 := Lib.hid hx0
  have HI0 := Lib.hid (h.ext hx0)
  have HB := Lib.hid (Blk.new w 29 #[.int .i64 m1, .int .i64 m2])
  have HS := Lib.hid (rsortE_any l lv _ HI0.out.own.re (by have := h.bd; omega))
  obtain ⟨A, c, rfl⟩ := h.own.re.form
  clear h hx0
  generalize Ent.srt l = S at *
  go_enter Try.func33, Try.ntmps33
  go_upto_region 1 with fail
  generalize w.heap.size = p at *
  generalize w.alloc (.cells #[.int .i64 m1, .int .i64 m2] 29) = w0 at *
  obtain ⟨c0, c1, c2, f0, f2⟩ := HI0.out.cells
  go_wp2_with fail
  refine HS.out.mono ?_
  rintro e w1 ⟨u, rfl, ho1, he1⟩
  have HS1 := Lib.hid ho1.re
  have HX1 := Lib.hid (HX0.out.trans he1)
  have HB1 := Lib.hid (HB.out.ext he1)
  obtain ⟨A1, cc1, rfl⟩ := ho1.re.form
  clear ho1 he1 c0 c1 c2 f0 f2
  go_wp2
  go_loopw [5, 7] (fun o iv wr => ∃ k : Nat, k ≤ S.length ∧ iv = .int .i64 (k : Int) ∧ OE 33 w1.heap.size wr o ((S.take k).filter fun x => decide (x.1 = (m1, m2))) ∧ Ext w1 wr) (fun _ iv _ => S.length - (intOf iv).toNat)
  case atStart => exact ⟨0, Nat.zero_le _, rfl, OE.nilS _ _ _, Ext.refl _⟩
  case round =>
    obtain ⟨k, hk, rfl, ho, hext⟩ := hrel
    have HE := Lib.hid hext
    have HO := Lib.hid ho
    obtain ⟨AO, cO, rfl⟩ := ho.re.form
    have HOUT := Lib.hid (show ((S.take k).filter fun x => decide (x.1 = (m1, m2))).length ≤ 4096 from Nat.le_trans (List.length_filter_le _ _) (by rw [List.length_take]; have h1 := HSL.out; have h2 := HBD.out; omega))
    have hkb : k ≤ 1000000 := by have h1 := HSL.out; have h2 := HBD.out; omega
    clear ho
    by_cases hlt : k < S.length
    · have g1 : (k : Int) < (S.length : Int) := by omega
      have g1n : k < S.length := hlt
      have g0 : 0 ≤ (k : Int) := by omega
      have HLT := Lib.hid hlt
      obtain ⟨bA, oA, rfl, y0, y1, y2, y3⟩ := re4 (HS1.out.ext hext) hlt
      have HST := Lib.hid (filt_s S (m1, m2) hlt)
      have d0 : wr.cell? ⟨p, 0, none⟩ = some (.int .i64 m1) := (HB1.out.ext hext).cell 0
      have d1 : wr.cell? ⟨p, 1, none⟩ = some (.int .i64 m2) := (HB1.out.ext hext).cell 1
      generalize ((S.take k).filter fun x => decide (x.1 = (m1, m2))) = out at *
      generalize S[k] = x at *
      obtain ⟨⟨x1, x2⟩, x3, x4⟩ := x
      dsimp only at *
      have heq := Mo.eqM
      clear hext hk hlt
      by_cases hq : (x1, x2) = (m1, m2)
      · have hd := Mo.pairB_t hq
        rw [if_pos hq] at HST
        clear hq
        go_wp2
        refine wp_regionY [] [] Ext Ext (fun _ => True) (by kernel_rfl) (by rfl) (by rfl) (by kernel_rfl) (by kernel_rfl) (by kernel_rfl) (fun _ _ _ x y => x.trans y) Ext.refl (fun _ _ x => x) (Ext.refl _).drew (fun _ _ x _ => x) trivial ?_
        repeat (first | (refine wpY_move0 rfl rfl (by first | exact runs0 | exact runs1 rfl) Ext.refl rfl rfl rfl ?_; apply Exists.intro; refine ⟨?_, ?_⟩; · (go_simp; rfl)) | (refine wpY_move rfl rfl (by first | exact runs0 | exact runs1 rfl) Ext.refl rfl rfl rfl (fun _ _ _ h _ => h) ?_) | (refine wpY_val rfl rfl (by first | exact runs0 | exact runs1 rfl) Ext.refl rfl ?_; apply Exists.intro; refine ⟨?_, ?_⟩; · (intro a w' hR; intro h1; (first | (have e1 : _ = _ := h1) | skip); intro h2; (first | (have e2 : _ = _ := h2) | skip); go_simp; rfl)) | (refine wpY_val rfl rfl (by first | exact runs0 | exact runs1 rfl) Ext.refl rfl ?_; apply Exists.intro; refine ⟨?_, ?_⟩; · (intro a w' hR; intro h1; (first | (have e1 : _ = _ := h1) | skip); go_simp; rfl)) | (refine wpY_val rfl rfl (by first | exact runs0 | exact runs1 rfl) Ext.refl rfl ?_; apply Exists.intro; refine ⟨?_, ?_⟩; · (intro a w' hR; go_simp; rfl)) | (refine wpY_val rfl rfl (by first | exact runs0 | exact runs1 rfl) Ext.refl rfl ?_; apply Exists.intro; refine ⟨?_, ?_⟩; · (intro a w' hR; intro h1; (first | (have e1 : _ = _ := h1) | skip); intro h2; (first | (have e2 : _ = _ := h2) | skip); intro h3; (first | (have e3 : _ = _ := h3) | skip); go_simp; rfl)) | (refine wpY_skip rfl rfl (by first | exact .inl rfl | exact .inr rfl) ?_))
        refine wpY_val rfl rfl (by first | exact runs0 | exact runs1 rfl) Ext.refl rfl ?_; apply Exists.intro; refine ⟨?_, ?_⟩
        · intro a w' hR h1
          have e1 : _ = _ := h1
          have hl0 := hR.cell y0
          have hl1 := hR.cell y1
          go_simp
          rfl
        refine wpY_val rfl rfl (by first | exact runs0 | exact runs1 rfl) Ext.refl rfl ?_; apply Exists.intro; refine ⟨?_, ?_⟩
        · intro a w' hR h1
          have e1 : _ = _ := h1
          have hl0 := hR.cell d0
          have hl1 := hR.cell d1
          go_simp
          rfl
        refine wpY_val rfl rfl (by first | exact runs0 | exact runs1 rfl) Ext.refl rfl ?_; apply Exists.intro; refine ⟨?_, ?_⟩
        · intro a w' hR h1 h2
          have e1 : _ = _ := h1
          have e2 : _ = _ := h2
          have hq9 := heq x1 x2 m1 m2 w'
          rw [hd] at hq9
          go_simp
          rfl
        refine wpY_done ?_
        intro w5 hx5 hS
        iterate 7 (rintro _ rfl)
        dsimp only [FinV]
        go_simp
        have hx5 : Ext wr w5 := hx5
        have HX5 := Lib.hid (HE.out.trans hx5)
        have z0 := hx5.cell y0
        have z1 := hx5.cell y1
        have z2 := hx5.cell y2
        have z3 := hx5.cell y3
        have HO5 := Lib.hid (HO.out.ext hx5)
        have HXL := Lib.hid ((Ext.refl w5).alloc (.cells #[.int .i64 x1, .int .i64 x2, .int .i64 x3, .int .i64 x4] 33))
        have HLIT := Lib.hid (RE.lit w5 #[.int .i64 x1, .int .i64 x2, .int .i64 x3, .int .i64 x4] 33 1 [(((x1, x2), x3, x4) : Ent.E)] rfl (by omega) rfl)
        have HOL := Lib.hid (HO5.out.ext HXL.out)
        have HXE := Lib.hid (HX5.out.trans HXL.out)
        clear hx5 hS y0 y1 y2 y3 d0 d1
        go_wp2_with (at_builtin; refine wpList_appE rfl elemE _ _ _ rfl w1.heap.size _ _ out [(((x1, x2), x3, x4) : Ent.E)] rfl HOL.out rfl HLIT.out (by have := HOUT.out; simp; omega) (by have := HOUT.out; unfold maxLen; simp; omega) HXE.out.size ?_; intro v7 w7 ho7 hg7 hat7)
        exact ⟨⟨k + 1, HLT.out, by go_num, by rw [HST.out]; exact ho7, HXE.out.grown hat7 fun g hg => (HOL.out.own.lt g hg).1⟩, by have := HLT.out; simp [intOf]; omega⟩
      · have hd := Mo.pairB_f hq
        rw [if_neg hq, List.append_nil] at HST
        clear hq
        go_wp2
        refine wp_regionY [] [] Ext Ext (fun _ => True) (by kernel_rfl) (by rfl) (by rfl) (by kernel_rfl) (by kernel_rfl) (by kernel_rfl) (fun _ _ _ x y => x.trans y) Ext.refl (fun _ _ x => x) (Ext.refl _).drew (fun _ _ x _ => x) trivial ?_
        repeat (first | (refine wpY_move0 rfl rfl (by first | exact runs0 | exact runs1 rfl) Ext.refl rfl rfl rfl ?_; apply Exists.intro; refine ⟨?_, ?_⟩; · (go_simp; rfl)) | (refine wpY_move rfl rfl (by first | exact runs0 | exact runs1 rfl) Ext.refl rfl rfl rfl (fun _ _ _ h _ => h) ?_) | (refine wpY_val rfl rfl (by first | exact runs0 | exact runs1 rfl) Ext.refl rfl ?_; apply Exists.intro; refine ⟨?_, ?_⟩; · (intro a w' hR; intro h1; (first | (have e1 : _ = _ := h1) | skip); intro h2; (first | (have e2 : _ = _ := h2) | skip); go_simp; rfl)) | (refine wpY_val rfl rfl (by first | exact runs0 | exact runs1 rfl) Ext.refl rfl ?_; apply Exists.intro; refine ⟨?_, ?_⟩; · (intro a w' hR; intro h1; (first | (have e1 : _ = _ := h1) | skip); go_simp; rfl)) | (refine wpY_val rfl rfl (by first | exact runs0 | exact runs1 rfl) Ext.refl rfl ?_; apply Exists.intro; refine ⟨?_, ?_⟩; · (intro a w' hR; go_simp; rfl)) | (refine wpY_val rfl rfl (by first | exact runs0 | exact runs1 rfl) Ext.refl rfl ?_; apply Exists.intro; refine ⟨?_, ?_⟩; · (intro a w' hR; intro h1; (first | (have e1 : _ = _ := h1) | skip); intro h2; (first | (have e2 : _ = _ := h2) | skip); intro h3; (first | (have e3 : _ = _ := h3) | skip); go_simp; rfl)) | (refine wpY_skip rfl rfl (by first | exact .inl rfl | exact .inr rfl) ?_))
        refine wpY_val rfl rfl (by first | exact runs0 | exact runs1 rfl) Ext.refl rfl ?_; apply Exists.intro; refine ⟨?_, ?_⟩
        · intro a w' hR h1
          have e1 : _ = _ := h1
          have hl0 := hR.cell y0
          have hl1 := hR.cell y1
          go_simp
          rfl
        refine wpY_val rfl rfl (by first | exact runs0 | exact runs1 rfl) Ext.refl rfl ?_; apply Exists.intro; refine ⟨?_, ?_⟩
        · intro a w' hR h1
          have e1 : _ = _ := h1
          have hl0 := hR.cell d0
          have hl1 := hR.cell d1
          go_simp
          rfl
        refine wpY_val rfl rfl (by first | exact runs0 | exact runs1 rfl) Ext.refl rfl ?_; apply Exists.intro; refine ⟨?_, ?_⟩
        · intro a w' hR h1 h2
          have e1 : _ = _ := h1
          have e2 : _ = _ := h2
          have hq9 := heq x1 x2 m1 m2 w'
          rw [hd] at hq9
          go_simp
          rfl
        refine wpY_done ?_
        intro w5 hx5 hS
        iterate 7 (rintro _ rfl)
        dsimp only [FinV]
        go_simp
        have hx5 : Ext wr w5 := hx5
        have HX5 := Lib.hid (HE.out.trans hx5)
        have HO5 := Lib.hid (HO.out.ext hx5)
        clear hx5 hS y0 y1 y2 y3 d0 d1
        go_wp2
        exact ⟨⟨k + 1, HLT.out, by go_num, by rw [HST.out]; exact HO5.out, HX5.out⟩, by have := HLT.out; simp [intOf]; omega⟩
    · have hk2 : k = S.length := by omega
      subst hk2
      have g1 : ¬ (S.length : Int) < (S.length : Int) := by omega
      rw [List.take_length] at HO HOUT ⊢
      have HOF := Lib.hid HO.out.re
      generalize (S.filter fun x => decide (x.1 = (m1, m2))).length = n9 at *
      clear hext
      go_wp2
      go_ret
      exact ⟨_, rfl, HOF.out, HX1.out.trans HE.out⟩
set_option maxRecDepth 100000 in
set_option maxHeartbeats 4000000 in
theorem rrunFront_any {w : World} {g : Nat} {lv : Value} {l : List Ent.E} {a b : Int} (h : RunI 49 w g lv l a b) :
    Calls Try.prog 22 #[.pointer (some ⟨g, 0, none⟩)] w fun e w' => ∃ u, e = .returned u ∧ RP w' u (Ent.frt l) ∧ Ext w w' := by
  have HBD := Lib.hid h.bd
  have HI := Lib.hid h
  have HV := Lib.hid h.own.re
  have HMN := Lib.hid (show (Ent.moms l).length = l.length from List.length_map _)
  have HMG := Lib.hid (show ∀ (k : Nat) (h1 : k < l.length) (h2 : k < (Ent.moms l).length), (Ent.moms l)[k] = l[k].1 from fun k h1 h2 => List.getElem_map _)
  have HFE := Lib.hid (show Ent.frt l = (Mom.rfront (Ent.moms l)).take 256 by
    unfold Ent.frt
    unfold Ent.moms
    rw [Mom.front_eq (l := l.map (·.1)) (List.pairwise_map.2 ((Ent.srt_asc l).imp fun {x y} hxy hlt => hxy (.inl hlt))) (fun k => (((Ent.srt_perm l).map (·.1)).mem_iff).symm)])
  have HRF := Lib.hid (fun v w (h : RP w v (Ent.moms l)) => Mo.rfront_any v (Ent.moms l) w h (by have := HMN.out; have := HBD.out; omega))
  rw [HFE.out]
  have HRL := Lib.hid (show (Mom.rfront (Ent.moms l)).length ≤ 1000000 by have h1 := rfront_short (Ent.moms l); have h2 := HMN.out; have h3 := HBD.out; omega)
  generalize Mom.rfront (Ent.moms l) = rf at *
  generalize Ent.moms l = ms at *
  obtain ⟨A, c, rfl⟩ := h.own.re.form
  clear h
  go_enter Try.func22, Try.ntmps22
  go_wp2
  go_loopw [3, 4] (fun o iv wr => ∃ k : Nat, k ≤ l.length ∧ iv = .int .i64 (k : Int) ∧ OP 29 w.heap.size wr o (ms.take k) ∧ Ext w wr) (fun _ iv _ => l.length - (intOf iv).toNat)
  case atStart => exact ⟨0, Nat.zero_le _, rfl, OP.nilS _ _ _, Ext.refl _⟩
  case round =>
    obtain ⟨k, hk, rfl, ho, hext⟩ := hrel
    have HE := Lib.hid hext
    have HO := Lib.hid ho
    obtain ⟨AO, cO, rfl⟩ := ho.rp.form
    have HOUT := Lib.hid (show (ms.take k).length ≤ 4096 by rw [List.length_take]; have h1 := HMN.out; have h2 := HBD.out; omega)
    have hkb : k ≤ 1000000 := by have h2 := HBD.out; omega
    obtain ⟨c0, c1, c2, f0, f2⟩ := (HI.out.ext hext).cells
    clear ho
    by_cases hlt : k < l.length
    · have g1 : (k : Int) < (l.length : Int) := by omega
      have g1n : k < l.length := hlt
      have g0 : 0 ≤ (k : Int) := by omega
      have HLT := Lib.hid hlt
      have hk2 : k < ms.length := by have := HMN.out; omega
      obtain ⟨bA, oA, rfl, y0, y1, y2, y3⟩ := re4 (HV.out.ext hext) hlt
      have HST := Lib.hid (List.take_succ_eq_append_getElem hk2)
      rw [HMG.out k hlt hk2] at HST
      generalize ms.take k = out at *
      generalize l[k] = x at *
      obtain ⟨⟨x1, x2⟩, x3, x4⟩ := x
      dsimp only at *
      have HLIT := Lib.hid (RP.lit wr #[.int .i64 x1, .int .i64 x2] 29 1 [(x1, x2)] rfl (by omega) rfl)
      have HXA := Lib.hid ((Ext.refl wr).alloc (.cells #[.int .i64 x1, .int .i64 x2] 29))
      have HOL := Lib.hid (HO.out.ext HXA.out)
      have HX7 := Lib.hid (HE.out.trans HXA.out)
      clear hext hk hlt hk2
      go_wp2_with (at_builtin; refine wpList_app rfl Mo.elemM _ _ _ rfl w.heap.size _ out.length _ rfl HOL.out.own _ 1 _ rfl HLIT.out.rd (one_pV _) (by have := HOUT.out; omega) (by have := HOUT.out; unfold maxLen; omega) HX7.out.size ?_; intro v7 w7 ha)
      exact ⟨⟨k + 1, HLT.out, by go_num, by rw [HST.out]; exact OP.app ha.own, ha.ext HX7.out rfl HOL.out.own⟩, by have := HLT.out; simp [intOf]; omega⟩
    · have hk2 : k = l.length := by omega
      subst hk2
      have g1 : ¬ (l.length : Int) < (l.length : Int) := by omega
      have HOM := Lib.hid (show RP wr (.slice AO (ms.take l.length).length cO) ms from by have h1 := HO.out.rp; rw [List.take_of_length_le (Nat.le_of_eq HMN.out)] at h1 ⊢; exact h1)
      have HFX := Lib.hid (HRF.out _ _ HOM.out)
      generalize (ms.take l.length).length = n9 at *
      clear hext hk hlt HO HOUT HRF
      go_wp2_with fail
      refine HFX.out.mono ?_
      rintro e w3 ⟨u, rfl, ho3, he3⟩
      have HX3 := Lib.hid (HE.out.trans he3)
      have HR3 := Lib.hid ho3.rp
      obtain ⟨A3, c3', rfl⟩ := ho3.rp.form
      clear ho3 he3 c0 c1 c2 f0 f2
      by_cases hc : 256 < rf.length
      · have g2 : (256 : Int) < (rf.length : Int) := by omega
        obtain ⟨hhi, rhi⟩ := RP.hi (k := 256) Mo.elemM HR3.out (by omega)
        have hhi : ∀ w', (Instr.slice 35 (.slice A3 rf.length c3') none (some (.int .i64 256)) none).run Try.prog w' = .ok (.slice A3 256 c3') w' := hhi
        have HHI := Lib.hid rhi
        have hln : (rf.take 256).length = 256 := by rw [List.length_take]; omega
        have HLN := Lib.hid hln
        clear rhi hc hln
        go_wp2
        go_ret
        exact ⟨_, rfl, HHI.out, HX3.out⟩
      · have g2 : ¬ (256 : Int) < (rf.length : Int) := by omega
        have HT := Lib.hid (show rf.take 256 = rf from List.take_of_length_le (by omega))
        clear hc
        go_wp2
        go_ret
        rw [HT.out]
        exact ⟨_, rfl, HR3.out, HX3.out⟩
end Go.Proofs.Ytbokblklldphgaa
