/-
  Layer 12: RunParts, RunDoes.
-/
import Derived.Test.YtbokblklldphgaaRunLaw1
import Derived.Test.YtbokblklldphgaaRunMath
namespace Go.Proofs.Ytbokblklldphgaa
open Go.RowKit Go.Ox Go.Shelf
attribute [local irreducible] OE RE RP OP
set_option linter.unusedVariables false
set_option linter.unusedSimpArgs false

set_option maxRecDepth 100000 in
set_option maxHeartbeats 4000000 in
theorem runParts_row (v : Value) (l : List Ent.E) (w : World) (hv : RE w v l) :
    Calls Try.prog 7 #[v] w fun e w' => e = .returned (.bool true) ∧ Ext w w' := by
  have HL := Lib.hid (fun w => lives_any w)
  have HV := Lib.hid hv
  obtain ⟨A, c, rfl⟩ := hv.form
  have HNEW := Lib.hid (fun w => new_ok 4096 w (by omega) (by omega))
  clear hv
  by_cases hl : 200 < l.length
  · have g1 : (200 : Int) < (l.length : Int) := by omega
    go_enter Try.func7, Try.ntmps7
    go_wp2_with fail
    refine (HNEW.out _).mono ?_
    rintro e w1 ⟨rfl, hr1, hx1⟩
    have HX1 := Lib.hid hx1
    clear hr1 hx1
    go_wp2_with fail
    refine (HL.out _).mono ?_
    rintro e w2 ⟨rfl, he2⟩
    have HX2 := Lib.hid (HX1.out.trans he2)
    clear he2
    go_wp2_with fail
    refine (HL.out _).mono ?_
    rintro e w3 ⟨rfl, he3⟩
    go_wp2
    go_ret
    exact ⟨rfl, HX2.out.trans he3⟩
  have g1 : ¬ (200 : Int) < (l.length : Int) := by omega
  have HN := Lib.hid (show l.length ≤ 200 by omega)
  clear hl
  go_enter Try.func7, Try.ntmps7
  go_wp2_with fail
  refine (HNEW.out _).mono ?_
  rintro e w1 ⟨rfl, hr1, hx1⟩
  obtain ⟨g, hg⟩ : ∃ g, g = w.heap.size := ⟨_, rfl⟩
  rw [← hg] at hr1 ⊢
  have HG := Lib.hid (Nat.le_of_eq hg.symm)
  clear hg
  have HR1 := Lib.hid hr1
  have HX1 := Lib.hid hx1
  clear hr1 hx1
  go_wp2_with fail
  refine (HL.out _).mono ?_
  rintro e w2 ⟨rfl, he2⟩
  have HR2 := Lib.hid (HR1.out.ext he2)
  have HX2 := Lib.hid (HX1.out.trans he2)
  clear he2 HR1 HX1
  go_wp2
  go_loopw [5] (fun iv wr => ∃ k : Nat, k ≤ l.length ∧ iv = .int .i64 (k : Int) ∧ (∃ lv b, RunI 59 wr g lv (held (l.take k)) 4096 b) ∧ Ext w wr) (fun iv _ => l.length - (intOf iv).toNat)
  case atStart => exact ⟨0, Nat.zero_le _, rfl, ⟨_, _, HR2.out⟩, HX2.out⟩
  case round =>
    obtain ⟨k, hk, rfl, ⟨lv, b, hr⟩, hext⟩ := hrel
    have HR := Lib.hid hr
    have HE := Lib.hid hext
    have hk4 : k ≤ 200 := by have := HN.out; omega
    clear hr
    by_cases hlt : k < l.length
    · have c1 : (k : Int) < (l.length : Int) := by omega
      have g0 : 0 ≤ (k : Int) := by omega
      have HLT := Lib.hid hlt
      have HF := Lib.hid (held_s l hlt (by have := HN.out; omega))
      obtain ⟨bA, oA, rfl, y0, y1, y2, y3⟩ := re4 (HV.out.ext hext) hlt
      have HAD := Lib.hid (add_any l[k] HR.out)
      generalize l[k] = x at *
      obtain ⟨⟨x1, x2⟩, x3, x4⟩ := x
      dsimp only at y0 y1 y2 y3
      clear hlt hk hext
      go_wp2_with fail
      refine HAD.out.mono ?_
      rintro e w6 ⟨rfl, lv6, hr6, hn6, hx6⟩
      rw [HF.out] at hr6
      have HE6 := Lib.hid (run_ext HE.out HR.out HG.out hx6)
      have HR6 := Lib.hid hr6
      clear hr6 hn6 hx6 y0 y1 y2 y3
      go_wp2
      exact ⟨⟨k + 1, HLT.out, by go_num, ⟨_, _, HR6.out⟩, HE6.out⟩, by have := HLT.out; simp [intOf]; omega⟩
    · obtain rfl : k = l.length := by omega
      have c1 : ¬ (l.length : Int) < (l.length : Int) := by omega
      rw [List.take_length] at HR
      generalize held l = H at *
      have HAL := Lib.hid (all_any HR.out)
      have HSL := Lib.hid (Ent.srt_len H)
      have HHB := Lib.hid HR.out.bd
      have HAT := Lib.hid (fun (m : Int × Int) (w : World) (h : RunI 59 w g lv H 4096 b) => runAt_any m h)
      have HAS := Lib.hid (Ent.srt_asc H)
      have hshl : (Ent.srt H).length = H.length := HSL.out
      generalize Ent.srt H = S at *
      clear hk hlt hext
      go_wp2_with fail
      refine HAL.out.mono ?_
      rintro e w5 ⟨u, rfl, ho5, he5⟩
      have HU5 := Lib.hid ho5.re
      have HR5 := Lib.hid (HR.out.ext he5)
      have HE5 := Lib.hid (HE.out.trans he5)
      obtain ⟨A5, c5, rfl⟩ := ho5.re.form
      have HSH := Lib.hid hshl
      clear ho5 he5 hshl
      go_wp2
      go_loopw [7, 8] (fun o iv wr => ∃ j : Nat, j ≤ S.length ∧ iv = .int .i64 (j : Int) ∧ OE 33 w5.heap.size wr o (Ent.upTo S j) ∧ Ext w5 wr) (fun _ iv _ => S.length - (intOf iv).toNat)
      case atStart => exact ⟨0, Nat.zero_le _, rfl, OE.nilS _ _ _, Ext.refl _⟩
      case round =>
        obtain ⟨j, hj, rfl, ho, hext⟩ := hrel
        rename World => wB
        have HE6 := Lib.hid hext
        have HO6 := Lib.hid ho
        have HUL := Lib.hid (Ent.upTo_len S j)
        obtain ⟨AO, cO, hvo⟩ := ho.re.form
        have hjb : j ≤ 4096 := by have h1 := HSL.out; have h2 := HHB.out; omega
        have HSB := Lib.hid (show S.length ≤ 4096 by have h1 := HSL.out; have h2 := HHB.out; omega)
        by_cases hlt : j < S.length
        · have c3 : (j : Int) < (S.length : Int) := by omega
          have g0 : 0 ≤ (j : Int) := by omega
          have g1n : j < S.length := hlt
          have HLT := Lib.hid hlt
          have HUB := HU5.out.ext hext
          have HRB := Lib.hid (HR5.out.ext hext)
          rcases Nat.eq_zero_or_pos j with hj0 | hj0
          · subst hj0
            have HF := Lib.hid (show Ent.upTo S (0 + 1) = Ent.upTo S 0 ++ _ from Ent.upTo_first HAS.out hlt)
            obtain ⟨bA, oA, rfl, y0, y1, y2, y3⟩ := re4 HUB hlt
            have HATB := Lib.hid (fun w h => HAT.out S[0].1 w h)
            have HFL := Lib.hid (show (S.filter fun x => decide (x.1 = S[0].1)).length ≤ 4096 from Nat.le_trans (List.length_filter_le _ _) HSB.out)
            generalize (S.filter fun x => decide (x.1 = S[0].1)) = F at *
            generalize S[0] = x at *
            generalize Ent.upTo S 0 = out at *
            subst hvo
            obtain ⟨⟨x1, x2⟩, x3, x4⟩ := x
            dsimp only at y0 y1 y2 y3 HATB
            simp only [Nat.zero_mul, Nat.add_zero] at y0 y1
            clear hext ho hlt hj HUB
            go_wp2
            refine wp_regionY [] [] Ext Ext (fun _ => True) (by kernel_rfl) (by rfl) (by rfl) (by kernel_rfl) (by kernel_rfl) (by kernel_rfl) (fun _ _ _ x y => x.trans y) Ext.refl (fun _ _ x => x) (Ext.refl _).drew (fun _ _ x _ => x) trivial ?_
            repeat (first | (refine wpY_move0 rfl rfl (by first | exact runs0 | exact runs1 rfl) Ext.refl rfl rfl rfl ?_; apply Exists.intro; refine ⟨?_, ?_⟩; · (go_simp; rfl)) | (refine wpY_move rfl rfl (by first | exact runs0 | exact runs1 rfl) Ext.refl rfl rfl rfl (fun _ _ _ h _ => h) ?_) | (refine wpY_val rfl rfl (by first | exact runs0 | exact runs1 rfl) Ext.refl rfl ?_; apply Exists.intro; refine ⟨?_, ?_⟩; · (intro a w' hR; intro h1; (first | (have e1 : _ = _ := h1) | skip); intro h2; (first | (have e2 : _ = _ := h2) | skip); go_simp; rfl)) | (refine wpY_val rfl rfl (by first | exact runs0 | exact runs1 rfl) Ext.refl rfl ?_; apply Exists.intro; refine ⟨?_, ?_⟩; · (intro a w' hR; intro h1; (first | (have e1 : _ = _ := h1) | skip); go_simp; rfl)) | (refine wpY_val rfl rfl (by first | exact runs0 | exact runs1 rfl) Ext.refl rfl ?_; apply Exists.intro; refine ⟨?_, ?_⟩; · (intro a w' hR; go_simp; rfl)) | (refine wpY_val rfl rfl (by first | exact runs0 | exact runs1 rfl) Ext.refl rfl ?_; apply Exists.intro; refine ⟨?_, ?_⟩; · (intro a w' hR; intro h1; (first | (have e1 : _ = _ := h1) | skip); intro h2; (first | (have e2 : _ = _ := h2) | skip); intro h3; (first | (have e3 : _ = _ := h3) | skip); go_simp; rfl)) | (refine wpY_skip rfl rfl (by first | exact .inl rfl | exact .inr rfl) ?_))
            refine wpY_done ?_
            intro w9 hx9 hS
            iterate 16 (rintro _ rfl)
            dsimp only [FinV]
            go_simp
            have hx9 : Ext wB w9 := hx9
            have HX9 := Lib.hid (HE6.out.trans hx9)
            have HO9 := Lib.hid (HO6.out.ext hx9)
            have z0 := hx9.cell y0
            have z1 := hx9.cell y1
            have HA9 := Lib.hid (HATB.out _ (HRB.out.ext hx9))
            clear hx9 hS y0 y1 y2 y3
            go_wp2_with fail
            refine HA9.out.mono ?_
            rintro e w10 ⟨uf, rfl, hf10, he10⟩
            have HF10 := Lib.hid hf10
            obtain ⟨AF, cF, rfl⟩ := hf10.form
            have HO10 := Lib.hid (HO9.out.ext he10)
            have HX10 := Lib.hid (HX9.out.trans he10)
            clear hf10 he10
            go_wp2_with (at_builtin; refine wpList_appE rfl elemE _ _ _ rfl w5.heap.size _ _ out F rfl HO10.out rfl HF10.out (by have h1 := HUL.out; have h2 := HFL.out; have h3 := HSB.out; omega) (by have h1 := HUL.out; have h2 := HFL.out; have h3 := HSB.out; unfold maxLen; omega) HX10.out.size ?_; intro v7 w7 ho7 hg7 hat7)
            exact ⟨⟨0 + 1, HLT.out, by go_num, by rw [HF.out]; exact ho7, HX10.out.grown hat7 fun g hg => (HO10.out.own.lt g hg).1⟩, by have := HLT.out; simp [intOf]; omega⟩
          · obtain ⟨i, hi⟩ : ∃ i, j = i + 1 := ⟨j - 1, by omega⟩
            have hlt1 : i + 1 < S.length := by omega
            have hlt0 : i < S.length := by omega
            have g2 : ((j : Int) == 0) = false := by simp; omega
            have hw1 : IntKind.i64.wrap ((j : Int) - 1) = (i : Int) := by rw [IntWalk.i64_in _ (by omega)]; omega
            have hu1 : Ent.upTo S j = Ent.upTo S (i + 1) := by rw [hi]
            have HJ := Lib.hid hi
            obtain ⟨bA, oA, hA, y0, y1, y2, y3⟩ := re4 HUB hlt
            obtain ⟨bA', oA', hA', u0, u1, u2, u3⟩ := re4 HUB hlt0
            have hAA := hA.symm.trans hA'
            injection hAA with hAA
            injection hAA with q1 q2
            subst q1
            subst q2
            subst hA
            have c5 : (i : Int) < (S.length : Int) := by omega
            have g5 : 0 ≤ (i : Int) := by omega
            have g5n : i < S.length := hlt0
            have heq := Mo.neM
            have hji : S[j] = S[i + 1] := by subst hi; rfl
            have HATB := Lib.hid (fun w h => HAT.out S[j].1 w h)
            have HFL := Lib.hid (show (S.filter fun x => decide (x.1 = S[j].1)).length ≤ 4096 from Nat.le_trans (List.length_filter_le _ _) HSB.out)
            by_cases hq : S[j].1 = S[i].1
            · have HF := Lib.hid (show Ent.upTo S (j + 1) = Ent.upTo S j by subst hi; exact Ent.upTo_same hlt1 hq)
              have hd := Mo.pairB_t hq
              generalize S[j] = x at *
              generalize S[i] = y at *
              generalize Ent.upTo S j = out at *
              subst hvo
              obtain ⟨⟨x1, x2⟩, x3, x4⟩ := x
              obtain ⟨⟨v1, v2⟩, v3, v4⟩ := y
              dsimp only at y0 y1 u0 u1 hd
              clear hext ho hlt hj HUB hi hu1 hji hq y2 y3 u2 u3 hlt1 hlt0
              go_wp2
              refine wp_regionY [] [] Ext Ext (fun _ => True) (by kernel_rfl) (by rfl) (by rfl) (by kernel_rfl) (by kernel_rfl) (by kernel_rfl) (fun _ _ _ x y => x.trans y) Ext.refl (fun _ _ x => x) (Ext.refl _).drew (fun _ _ x _ => x) trivial ?_
              repeat (first | (refine wpY_move0 rfl rfl (by first | exact runs0 | exact runs1 rfl) Ext.refl rfl rfl rfl ?_; apply Exists.intro; refine ⟨?_, ?_⟩; · (go_simp; rfl)) | (refine wpY_move rfl rfl (by first | exact runs0 | exact runs1 rfl) Ext.refl rfl rfl rfl (fun _ _ _ h _ => h) ?_) | (refine wpY_val rfl rfl (by first | exact runs0 | exact runs1 rfl) Ext.refl rfl ?_; apply Exists.intro; refine ⟨?_, ?_⟩; · (intro a w' hR; intro h1; (first | (have e1 : _ = _ := h1) | skip); intro h2; (first | (have e2 : _ = _ := h2) | skip); go_simp; rfl)) | (refine wpY_val rfl rfl (by first | exact runs0 | exact runs1 rfl) Ext.refl rfl ?_; apply Exists.intro; refine ⟨?_, ?_⟩; · (intro a w' hR; intro h1; (first | (have e1 : _ = _ := h1) | skip); go_simp; rfl)) | (refine wpY_val rfl rfl (by first | exact runs0 | exact runs1 rfl) Ext.refl rfl ?_; apply Exists.intro; refine ⟨?_, ?_⟩; · (intro a w' hR; go_simp; rfl)) | (refine wpY_val rfl rfl (by first | exact runs0 | exact runs1 rfl) Ext.refl rfl ?_; apply Exists.intro; refine ⟨?_, ?_⟩; · (intro a w' hR; intro h1; (first | (have e1 : _ = _ := h1) | skip); intro h2; (first | (have e2 : _ = _ := h2) | skip); intro h3; (first | (have e3 : _ = _ := h3) | skip); go_simp; rfl)) | (refine wpY_skip rfl rfl (by first | exact .inl rfl | exact .inr rfl) ?_))
              refine wpY_val rfl rfl (by first | exact runs0 | exact runs1 rfl) Ext.refl rfl ?_; apply Exists.intro; refine ⟨?_, ?_⟩
              · intro a w' hR h1
                have e1 : _ = _ := h1
                have hl0 := hR.cell y0
                have hl1 := hR.cell y1
                go_simp
                rfl
              repeat (first | (refine wpY_move0 rfl rfl (by first | exact runs0 | exact runs1 rfl) Ext.refl rfl rfl rfl ?_; apply Exists.intro; refine ⟨?_, ?_⟩; · (go_simp; rfl)) | (refine wpY_move rfl rfl (by first | exact runs0 | exact runs1 rfl) Ext.refl rfl rfl rfl (fun _ _ _ h _ => h) ?_) | (refine wpY_val rfl rfl (by first | exact runs0 | exact runs1 rfl) Ext.refl rfl ?_; apply Exists.intro; refine ⟨?_, ?_⟩; · (intro a w' hR; intro h1; (first | (have e1 : _ = _ := h1) | skip); intro h2; (first | (have e2 : _ = _ := h2) | skip); go_simp; rfl)) | (refine wpY_val rfl rfl (by first | exact runs0 | exact runs1 rfl) Ext.refl rfl ?_; apply Exists.intro; refine ⟨?_, ?_⟩; · (intro a w' hR; intro h1; (first | (have e1 : _ = _ := h1) | skip); go_simp; rfl)) | (refine wpY_val rfl rfl (by first | exact runs0 | exact runs1 rfl) Ext.refl rfl ?_; apply Exists.intro; refine ⟨?_, ?_⟩; · (intro a w' hR; go_simp; rfl)) | (refine wpY_val rfl rfl (by first | exact runs0 | exact runs1 rfl) Ext.refl rfl ?_; apply Exists.intro; refine ⟨?_, ?_⟩; · (intro a w' hR; intro h1; (first | (have e1 : _ = _ := h1) | skip); intro h2; (first | (have e2 : _ = _ := h2) | skip); intro h3; (first | (have e3 : _ = _ := h3) | skip); go_simp; rfl)) | (refine wpY_skip rfl rfl (by first | exact .inl rfl | exact .inr rfl) ?_))
              refine wpY_val rfl rfl (by first | exact runs0 | exact runs1 rfl) Ext.refl rfl ?_; apply Exists.intro; refine ⟨?_, ?_⟩
              · intro a w' hR h1
                have e1 : _ = _ := h1
                have hl0 := hR.cell u0
                have hl1 := hR.cell u1
                go_simp
                rfl
              refine wpY_val rfl rfl (by first | exact runs0 | exact runs1 rfl) Ext.refl rfl ?_; apply Exists.intro; refine ⟨?_, ?_⟩
              · intro a w' hR h1 h2
                have e1 : _ = _ := h1
                have e2 : _ = _ := h2
                have hq9 := heq x1 x2 v1 v2 w'
                rw [hd] at hq9
                go_simp
                rfl
              repeat (first | (refine wpY_move0 rfl rfl (by first | exact runs0 | exact runs1 rfl) Ext.refl rfl rfl rfl ?_; apply Exists.intro; refine ⟨?_, ?_⟩; · (go_simp; rfl)) | (refine wpY_move rfl rfl (by first | exact runs0 | exact runs1 rfl) Ext.refl rfl rfl rfl (fun _ _ _ h _ => h) ?_) | (refine wpY_val rfl rfl (by first | exact runs0 | exact runs1 rfl) Ext.refl rfl ?_; apply Exists.intro; refine ⟨?_, ?_⟩; · (intro a w' hR; intro h1; (first | (have e1 : _ = _ := h1) | skip); intro h2; (first | (have e2 : _ = _ := h2) | skip); go_simp; rfl)) | (refine wpY_val rfl rfl (by first | exact runs0 | exact runs1 rfl) Ext.refl rfl ?_; apply Exists.intro; refine ⟨?_, ?_⟩; · (intro a w' hR; intro h1; (first | (have e1 : _ = _ := h1) | skip); go_simp; rfl)) | (refine wpY_val rfl rfl (by first | exact runs0 | exact runs1 rfl) Ext.refl rfl ?_; apply Exists.intro; refine ⟨?_, ?_⟩; · (intro a w' hR; go_simp; rfl)) | (refine wpY_val rfl rfl (by first | exact runs0 | exact runs1 rfl) Ext.refl rfl ?_; apply Exists.intro; refine ⟨?_, ?_⟩; · (intro a w' hR; intro h1; (first | (have e1 : _ = _ := h1) | skip); intro h2; (first | (have e2 : _ = _ := h2) | skip); intro h3; (first | (have e3 : _ = _ := h3) | skip); go_simp; rfl)) | (refine wpY_skip rfl rfl (by first | exact .inl rfl | exact .inr rfl) ?_))
              refine wpY_done ?_
              intro w9 hx9 hS
              iterate 16 (rintro _ rfl)
              dsimp only [FinV]
              go_simp
              have hx9 : Ext wB w9 := hx9
              have HX9 := Lib.hid (HE6.out.trans hx9)
              have HO9 := Lib.hid (HO6.out.ext hx9)
              clear hx9 hS
              go_wp2
              exact ⟨⟨j + 1, HLT.out, by go_num, by rw [HF.out]; exact HO9.out, HX9.out⟩, by have := HLT.out; simp [intOf]; omega⟩
            · have HF := Lib.hid (show Ent.upTo S (j + 1) = Ent.upTo S j ++ S.filter (fun x => decide (x.1 = S[j].1)) by subst hi; exact Ent.upTo_next HAS.out hlt1 hq)
              have hd := Mo.pairB_f hq
              generalize (S.filter fun x => decide (x.1 = S[j].1)) = F at *
              generalize S[j] = x at *
              generalize S[i] = y at *
              generalize Ent.upTo S j = out at *
              subst hvo
              obtain ⟨⟨x1, x2⟩, x3, x4⟩ := x
              obtain ⟨⟨v1, v2⟩, v3, v4⟩ := y
              dsimp only at y0 y1 u0 u1 hd HATB
              clear hext ho hlt hj HUB hi hu1 hji hq u2 u3 hlt1 hlt0
              go_wp2
              refine wp_regionY [] [] Ext Ext (fun _ => True) (by kernel_rfl) (by rfl) (by rfl) (by kernel_rfl) (by kernel_rfl) (by kernel_rfl) (fun _ _ _ x y => x.trans y) Ext.refl (fun _ _ x => x) (Ext.refl _).drew (fun _ _ x _ => x) trivial ?_
              repeat (first | (refine wpY_move0 rfl rfl (by first | exact runs0 | exact runs1 rfl) Ext.refl rfl rfl rfl ?_; apply Exists.intro; refine ⟨?_, ?_⟩; · (go_simp; rfl)) | (refine wpY_move rfl rfl (by first | exact runs0 | exact runs1 rfl) Ext.refl rfl rfl rfl (fun _ _ _ h _ => h) ?_) | (refine wpY_val rfl rfl (by first | exact runs0 | exact runs1 rfl) Ext.refl rfl ?_; apply Exists.intro; refine ⟨?_, ?_⟩; · (intro a w' hR; intro h1; (first | (have e1 : _ = _ := h1) | skip); intro h2; (first | (have e2 : _ = _ := h2) | skip); go_simp; rfl)) | (refine wpY_val rfl rfl (by first | exact runs0 | exact runs1 rfl) Ext.refl rfl ?_; apply Exists.intro; refine ⟨?_, ?_⟩; · (intro a w' hR; intro h1; (first | (have e1 : _ = _ := h1) | skip); go_simp; rfl)) | (refine wpY_val rfl rfl (by first | exact runs0 | exact runs1 rfl) Ext.refl rfl ?_; apply Exists.intro; refine ⟨?_, ?_⟩; · (intro a w' hR; go_simp; rfl)) | (refine wpY_val rfl rfl (by first | exact runs0 | exact runs1 rfl) Ext.refl rfl ?_; apply Exists.intro; refine ⟨?_, ?_⟩; · (intro a w' hR; intro h1; (first | (have e1 : _ = _ := h1) | skip); intro h2; (first | (have e2 : _ = _ := h2) | skip); intro h3; (first | (have e3 : _ = _ := h3) | skip); go_simp; rfl)) | (refine wpY_skip rfl rfl (by first | exact .inl rfl | exact .inr rfl) ?_))
              refine wpY_val rfl rfl (by first | exact runs0 | exact runs1 rfl) Ext.refl rfl ?_; apply Exists.intro; refine ⟨?_, ?_⟩
              · intro a w' hR h1
                have e1 : _ = _ := h1
                have hl0 := hR.cell y0
                have hl1 := hR.cell y1
                go_simp
                rfl
              repeat (first | (refine wpY_move0 rfl rfl (by first | exact runs0 | exact runs1 rfl) Ext.refl rfl rfl rfl ?_; apply Exists.intro; refine ⟨?_, ?_⟩; · (go_simp; rfl)) | (refine wpY_move rfl rfl (by first | exact runs0 | exact runs1 rfl) Ext.refl rfl rfl rfl (fun _ _ _ h _ => h) ?_) | (refine wpY_val rfl rfl (by first | exact runs0 | exact runs1 rfl) Ext.refl rfl ?_; apply Exists.intro; refine ⟨?_, ?_⟩; · (intro a w' hR; intro h1; (first | (have e1 : _ = _ := h1) | skip); intro h2; (first | (have e2 : _ = _ := h2) | skip); go_simp; rfl)) | (refine wpY_val rfl rfl (by first | exact runs0 | exact runs1 rfl) Ext.refl rfl ?_; apply Exists.intro; refine ⟨?_, ?_⟩; · (intro a w' hR; intro h1; (first | (have e1 : _ = _ := h1) | skip); go_simp; rfl)) | (refine wpY_val rfl rfl (by first | exact runs0 | exact runs1 rfl) Ext.refl rfl ?_; apply Exists.intro; refine ⟨?_, ?_⟩; · (intro a w' hR; go_simp; rfl)) | (refine wpY_val rfl rfl (by first | exact runs0 | exact runs1 rfl) Ext.refl rfl ?_; apply Exists.intro; refine ⟨?_, ?_⟩; · (intro a w' hR; intro h1; (first | (have e1 : _ = _ := h1) | skip); intro h2; (first | (have e2 : _ = _ := h2) | skip); intro h3; (first | (have e3 : _ = _ := h3) | skip); go_simp; rfl)) | (refine wpY_skip rfl rfl (by first | exact .inl rfl | exact .inr rfl) ?_))
              refine wpY_val rfl rfl (by first | exact runs0 | exact runs1 rfl) Ext.refl rfl ?_; apply Exists.intro; refine ⟨?_, ?_⟩
              · intro a w' hR h1
                have e1 : _ = _ := h1
                have hl0 := hR.cell u0
                have hl1 := hR.cell u1
                go_simp
                rfl
              refine wpY_val rfl rfl (by first | exact runs0 | exact runs1 rfl) Ext.refl rfl ?_; apply Exists.intro; refine ⟨?_, ?_⟩
              · intro a w' hR h1 h2
                have e1 : _ = _ := h1
                have e2 : _ = _ := h2
                have hq9 := heq x1 x2 v1 v2 w'
                rw [hd] at hq9
                go_simp
                rfl
              repeat (first | (refine wpY_move0 rfl rfl (by first | exact runs0 | exact runs1 rfl) Ext.refl rfl rfl rfl ?_; apply Exists.intro; refine ⟨?_, ?_⟩; · (go_simp; rfl)) | (refine wpY_move rfl rfl (by first | exact runs0 | exact runs1 rfl) Ext.refl rfl rfl rfl (fun _ _ _ h _ => h) ?_) | (refine wpY_val rfl rfl (by first | exact runs0 | exact runs1 rfl) Ext.refl rfl ?_; apply Exists.intro; refine ⟨?_, ?_⟩; · (intro a w' hR; intro h1; (first | (have e1 : _ = _ := h1) | skip); intro h2; (first | (have e2 : _ = _ := h2) | skip); go_simp; rfl)) | (refine wpY_val rfl rfl (by first | exact runs0 | exact runs1 rfl) Ext.refl rfl ?_; apply Exists.intro; refine ⟨?_, ?_⟩; · (intro a w' hR; intro h1; (first | (have e1 : _ = _ := h1) | skip); go_simp; rfl)) | (refine wpY_val rfl rfl (by first | exact runs0 | exact runs1 rfl) Ext.refl rfl ?_; apply Exists.intro; refine ⟨?_, ?_⟩; · (intro a w' hR; go_simp; rfl)) | (refine wpY_val rfl rfl (by first | exact runs0 | exact runs1 rfl) Ext.refl rfl ?_; apply Exists.intro; refine ⟨?_, ?_⟩; · (intro a w' hR; intro h1; (first | (have e1 : _ = _ := h1) | skip); intro h2; (first | (have e2 : _ = _ := h2) | skip); intro h3; (first | (have e3 : _ = _ := h3) | skip); go_simp; rfl)) | (refine wpY_skip rfl rfl (by first | exact .inl rfl | exact .inr rfl) ?_))
              refine wpY_done ?_
              intro w9 hx9 hS
              iterate 16 (rintro _ rfl)
              dsimp only [FinV]
              go_simp
              have hx9 : Ext wB w9 := hx9
              have HX9 := Lib.hid (HE6.out.trans hx9)
              have HO9 := Lib.hid (HO6.out.ext hx9)
              have z0 := hx9.cell y0
              have z1 := hx9.cell y1
              have HA9 := Lib.hid (HATB.out _ (HRB.out.ext hx9))
              clear hx9 hS y0 y1 y2 y3
              go_wp2_with fail
              refine HA9.out.mono ?_
              rintro e w10 ⟨uf, rfl, hf10, he10⟩
              have HF10 := Lib.hid hf10
              obtain ⟨AF, cF, rfl⟩ := hf10.form
              have HO10 := Lib.hid (HO9.out.ext he10)
              have HX10 := Lib.hid (HX9.out.trans he10)
              clear hf10 he10
              go_wp2_with (at_builtin; refine wpList_appE rfl elemE _ _ _ rfl w5.heap.size _ _ out F rfl HO10.out rfl HF10.out (by have h1 := HUL.out; have h2 := HFL.out; have h3 := HSB.out; omega) (by have h1 := HUL.out; have h2 := HFL.out; have h3 := HSB.out; unfold maxLen; omega) HX10.out.size ?_; intro v7 w7 ho7 hg7 hat7)
              exact ⟨⟨j + 1, HLT.out, by go_num, by rw [HF.out]; exact ho7, HX10.out.grown hat7 fun g hg => (HO10.out.own.lt g hg).1⟩, by have := HLT.out; simp [intOf]; omega⟩
        · obtain rfl : j = S.length := by omega
          have c3 : ¬ (S.length : Int) < (S.length : Int) := by omega
          rw [Ent.upTo_all HAS.out] at HO6 hvo
          subst hvo
          have HR6 := Lib.hid (HR5.out.ext hext)
          have HSM := Lib.hid (sameE_is _ _ S wB HO6.out.re (HU5.out.ext hext))
          have HEF := Lib.hid (HE5.out.trans HE6.out)
          have hsh : (H.length : Int) = (S.length : Int) := by rw [HSH.out]
          clear hext ho hj hlt
          go_wp2_with fail
          refine HSM.out.mono ?_
          rintro e w7 ⟨rfl, he7⟩
          have HL7 := Lib.hid (len_any (HR6.out.ext he7))
          have HEG := Lib.hid (HEF.out.trans he7)
          rw [hsh] at HL7
          clear he7 hsh
          go_wp2_with fail
          refine HL7.out.mono ?_
          rintro e w' ⟨rfl, rfl⟩
          go_wp2
          go_ret
          exact ⟨rfl, HEG.out⟩
-- END OF PARTS
theorem OpR.ext {w w' : World} {r : List Value} {o : OpD} (h : OpR w r o) (he : Ext w w') : OpR w' r o := by
  obtain ⟨u, h1, h2⟩ := h
  exact ⟨u, h1, RP.ext h2 he⟩
set_option maxRecDepth 100000 in
set_option maxHeartbeats 4000000 in
theorem runDoes_bad (a : Int) (v : Value) (l : List OpD) (w : World) (hv : RS 6 OpR w v l) (ha : a < 1 ∨ 4096 < a) :
    Calls Try.prog 5 #[.int .i64 a, v] w fun e w' => e = .returned (.bool true) ∧ Ext w w' := by
  obtain ⟨A, c, rfl⟩ := hv.form
  have HN := Lib.hid (fun w => new_bad a w ha)
  have HRN := Lib.hid (fun w => rnew_bad a w ha)
  clear hv ha
  go_enter Try.func5, Try.ntmps5
  go_wp2_with fail
  refine (HN.out _).mono ?_
  rintro e w1 ⟨rfl, rfl⟩
  go_wp2_with fail
  refine (HRN.out _).mono ?_
  rintro e w1 ⟨rfl, rfl⟩
  go_wp2_with fail
  refine (lives_any _).mono ?_
  rintro e w1 ⟨rfl, he1⟩
  have HE1 := Lib.hid he1
  clear he1
  go_wp2
  go_loopw [8] (fun iv wr => iv = .int .i64 0 ∧ Ext w wr) (fun iv _ => 0)
  case atStart => exact ⟨rfl, HE1.out⟩
  case round =>
    obtain ⟨rfl, hext⟩ := hrel
    rcases Nat.eq_zero_or_pos l.length with h | h
    · rw [h]
      go_wp2
      go_ret
      exact ⟨rfl, hext⟩
    · have g1 : (0 : Int) < (l.length : Int) := by omega
      go_wp2
      go_ret
      exact ⟨rfl, hext⟩
set_option maxRecDepth 100000 in
set_option maxHeartbeats 8000000 in
theorem runDoes_ok (a : Int) (v : Value) (l : List OpD) (w : World) (hv : RS 6 OpR w v l) (ha : 1 ≤ a) (ha2 : a ≤ 4096) :
    Calls Try.prog 5 #[.int .i64 a, v] w fun e w' => e = .returned (.bool true) ∧ Ext w w' := by
  have HV := Lib.hid hv
  obtain ⟨A, c, rfl⟩ := hv.form
  have HN := Lib.hid (fun w => new_ok a w ha ha2)
  have HRN := Lib.hid (fun w => rnew_ok a w ha ha2)
  clear hv ha ha2
  go_enter Try.func5, Try.ntmps5
  go_wp2_with fail
  refine (HN.out _).mono ?_
  rintro e w1 ⟨rfl, hr1, hx1⟩
  obtain ⟨g, hg⟩ : ∃ g, g = w.heap.size := ⟨_, rfl⟩
  rw [← hg] at hr1 ⊢
  have HG := Lib.hid hg
  clear hg
  have HR1 := Lib.hid hr1
  have HX1 := Lib.hid hx1
  clear hr1 hx1
  go_wp2_with fail
  refine (HRN.out _).mono ?_
  rintro e w2 ⟨rfl, hr2, hx2⟩
  obtain ⟨gx, hgx⟩ : ∃ gx, gx = w1.heap.size := ⟨_, rfl⟩
  rw [← hgx] at hr2 ⊢
  have HT2 := Lib.hid (show TwoE (fun k => w.heap.size ≤ k) w2 g gx a [] 0 [] 0 from ⟨_, _, HR1.out.ext hx2, hr2, fun k h1 h2 => by
    have q1 : k = g := h1.resolve_right (by rintro ⟨⟩)
    have q2 : k = gx := h2.resolve_right (by rintro ⟨⟩)
    have := HR1.out.blk.lt
    omega, fun k h1 => by
    have q1 : k = g := h1.resolve_right (by rintro ⟨⟩)
    have := HG.out
    omega, fun k h1 => by
    have q1 : k = gx := h1.resolve_right (by rintro ⟨⟩)
    have := HX1.out.size
    omega, fun k h1 => by
    have := HX1.out.size
    have := hx2.size
    omega⟩)
  have HX2 := Lib.hid (HX1.out.trans hx2)
  clear hr2 hx2 hgx HR1 HX1
  go_wp2_with fail
  refine (lives_any _).mono ?_
  rintro e w3 ⟨rfl, he3⟩
  have HT3 := Lib.hid (HT2.out.ext he3)
  have HX3 := Lib.hid (HX2.out.trans he3)
  clear he3 HT2 HX2
  go_wp2
  go_loopw [8] (fun iv wr => ∃ k : Nat, k ≤ l.length ∧ iv = .int .i64 (k : Int) ∧ (∃ L b, TwoE (fun k => w.heap.size ≤ k) wr g gx a L b L b) ∧ Ext w wr) (fun iv _ => l.length - (intOf iv).toNat)
  case atStart => exact ⟨0, Nat.zero_le _, rfl, ⟨_, _, HT3.out⟩, HX3.out⟩
  case round =>
    obtain ⟨k, hk, rfl, ⟨L, b, hT⟩, hext⟩ := hrel
    have HE := Lib.hid hext
    have HT := Lib.hid hT
    clear hT
    by_cases hlt : k < l.length
    · have g1 : (k : Int) < (l.length : Int) := by omega
      have g0 : 0 ≤ (k : Int) := by omega
      have g1n : k < l.length := hlt
      have HLT := Lib.hid hlt
      by_cases h80 : k < 80
      · have g2 : (k : Int) < 80 := by omega
        obtain ⟨bA, oA, r, rfl, -, ⟨u, rfl, hu⟩, hc⟩ := HV.out.at_ (by omega) hlt
        generalize l[k] = o at *
        obtain ⟨n, ⟨⟨x1, x2⟩, x3, x4⟩, f⟩ := o
        obtain ⟨AU, cU, rfl⟩ := hu.form
        have y0 := hc 0 _ rfl
        have y1 := hc 1 _ rfl
        have y2 := hc 2 _ rfl
        have y3 := hc 3 _ rfl
        have y4 := hc 4 _ rfl
        have y5 := hc 5 _ rfl
        dsimp only at y0 y1 y2 y3 y4 y5 hu
        rw [Nat.add_zero] at y0
        have HY := Lib.hid (And.intro y0 (And.intro y1 (And.intro y2 (And.intro y3 (And.intro y4 y5)))))
        have z5 := hext.cell y5
        have HU := Lib.hid hu
        clear hu hc y0 y1 y2 y3 y4 y5 hlt hk
        by_cases hf : 100 < f.length
        · have g3 : (100 : Int) < (f.length : Int) := by omega
          clear hext
          go_wp2
          exact ⟨⟨k + 1, HLT.out, by go_num, ⟨_, _, HT.out⟩, HE.out⟩, by have := HLT.out; simp [intOf]; omega⟩
        · have g3 : ¬ (100 : Int) < (f.length : Int) := by omega
          have HDO := Lib.hid (fun (W : World) (h : TwoE (fun k => w.heap.size ≤ k) W g gx a L b L b) hu => do_any n ((x1, x2), x3, x4) (.slice AU f.length cU) f h hu (by omega))
          generalize stpL n ((x1, x2), x3, x4) f L a = M at *
          generalize stpB n ((x1, x2), x3, x4) L a b = c2 at *
          clear hext hf
          go_wp2
          clear z5
          refine wp_regionZ [67] [71, 75, 81, 85, 90, 94, 99, 103, 104, 105, 110, 112, 113] Ext (ExtQ (fun k => w.heap.size ≤ k)) (fun W => TwoE (fun k => w.heap.size ≤ k) W g gx a L b L b) (by kernel_rfl) (by rfl) (by rfl) (by kernel_rfl) (by kernel_rfl) (by kernel_rfl) (fun _ _ _ x y => x.trans y) (ExtQ.refl _) (fun _ _ x => ExtQ.of x) Ext.refl (Ext.refl _).drew (fun _ _ x y => x.ext y) (HT.out) ?_
          repeat (first | (refine wpZ_move0 rfl rfl (fun _ => (by first | exact runs0 | exact runs1 rfl)) Ext.refl rfl rfl (fun _ => rfl) ?_; apply Exists.intro; refine ⟨?_, ?_⟩; · (go_simp; rfl)) | (refine wpZ_val rfl rfl (fun _ => (by first | exact runs0 | exact runs1 rfl)) Ext.refl rfl ?_; apply Exists.intro; refine ⟨?_, ?_⟩; · (intro c a w' hR; intro h1; (first | (have e1 : _ = _ := h1) | skip); intro h2; (first | (have e2 : _ = _ := h2) | skip); go_simp; rfl)) | (refine wpZ_val rfl rfl (fun _ => (by first | exact runs0 | exact runs1 rfl)) Ext.refl rfl ?_; apply Exists.intro; refine ⟨?_, ?_⟩; · (intro c a w' hR; intro h1; (first | (have e1 : _ = _ := h1) | skip); go_simp; rfl)) | (refine wpZ_val rfl rfl (fun _ => (by first | exact runs0 | exact runs1 rfl)) Ext.refl rfl ?_; apply Exists.intro; refine ⟨?_, ?_⟩; · (intro c a w' hR; go_simp; rfl)) | (refine wpZ_val rfl rfl (fun _ => (by first | exact runs0 | exact runs1 rfl)) Ext.refl rfl ?_; apply Exists.intro; refine ⟨?_, ?_⟩; · (intro c a w' hR; intro h1; (first | (have e1 : _ = _ := h1) | skip); intro h2; (first | (have e2 : _ = _ := h2) | skip); intro h3; (first | (have e3 : _ = _ := h3) | skip); go_simp; rfl)))
          refine wpZ_val rfl rfl (fun _ => (by first | exact runs0 | exact runs1 rfl)) Ext.refl rfl ?_; apply Exists.intro; refine ⟨?_, ?_⟩
          · intro c a w' hR h1
            have e1 : _ = _ := h1
            have hE := ((ExtQ.of HE.out).trans hR).ext (fun k q => q)
            obtain ⟨y0, y1, y2, y3, y4, y5⟩ := HY.out
            have hl0 := hE.cell y0
            have hl1 := hE.cell y1
            have hl2 := hE.cell y2
            have hl3 := hE.cell y3
            have hl4 := hE.cell y4
            have hl5 := hE.cell y5
            go_simp
            rfl
          refine wpZ_eff (fun _ v _ => v = .bool true) (fun W => TwoE (fun k => w.heap.size ≤ k) W g gx a M c2 M c2) rfl (by first | exact runs0 | exact runs1 rfl) rfl (keptC_eq) (fun _ _ x y => x.ext y) ?_ ?_
          · intro a w' hR hS h1 h2 h3 K hK
            have e1 : _ = _ := h1
            have e2 : _ = _ := h2
            have e3 : _ = _ := h3
            go_simp
            refine (HDO.out w' hS (fun W he => RP.ext HU.out ((((ExtQ.of HE.out).trans hR).trans he).ext (fun k q => q)))).mono ?_
            rintro e w2 ⟨rfl, he, hT⟩
            exact hK _ _ he hT rfl
          repeat (first | (refine wpZ_move0 rfl rfl (fun _ => (by first | exact runs0 | exact runs1 rfl)) Ext.refl rfl rfl (fun _ => rfl) ?_; apply Exists.intro; refine ⟨?_, ?_⟩; · (go_simp; rfl)) | (refine wpZ_val rfl rfl (fun _ => (by first | exact runs0 | exact runs1 rfl)) Ext.refl rfl ?_; apply Exists.intro; refine ⟨?_, ?_⟩; · (intro c a w' hR; intro h1; (first | (have e1 : _ = _ := h1) | skip); intro h2; (first | (have e2 : _ = _ := h2) | skip); go_simp; rfl)) | (refine wpZ_val rfl rfl (fun _ => (by first | exact runs0 | exact runs1 rfl)) Ext.refl rfl ?_; apply Exists.intro; refine ⟨?_, ?_⟩; · (intro c a w' hR; intro h1; (first | (have e1 : _ = _ := h1) | skip); go_simp; rfl)) | (refine wpZ_val rfl rfl (fun _ => (by first | exact runs0 | exact runs1 rfl)) Ext.refl rfl ?_; apply Exists.intro; refine ⟨?_, ?_⟩; · (intro c a w' hR; go_simp; rfl)) | (refine wpZ_val rfl rfl (fun _ => (by first | exact runs0 | exact runs1 rfl)) Ext.refl rfl ?_; apply Exists.intro; refine ⟨?_, ?_⟩; · (intro c a w' hR; intro h1; (first | (have e1 : _ = _ := h1) | skip); intro h2; (first | (have e2 : _ = _ := h2) | skip); intro h3; (first | (have e3 : _ = _ := h3) | skip); go_simp; rfl)))
          refine wpZ_callA (fun _ v _ => v = .int .i64 (M.length : Int)) rfl rfl (by first | exact runs0 | exact runs1 rfl) rfl (keptC_eq) ?_ ?_
          · intro a w' hR hS h1 K hK
            have e1 : _ = _ := h1
            obtain ⟨lv, lx, hT⟩ := hS
            go_simp
            refine (len_any hT.r).mono ?_
            rintro e w2 ⟨rfl, rfl⟩
            exact hK _ _ (Ext.refl _) rfl
          repeat (first | (refine wpZ_move0 rfl rfl (fun _ => (by first | exact runs0 | exact runs1 rfl)) Ext.refl rfl rfl (fun _ => rfl) ?_; apply Exists.intro; refine ⟨?_, ?_⟩; · (go_simp; rfl)) | (refine wpZ_val rfl rfl (fun _ => (by first | exact runs0 | exact runs1 rfl)) Ext.refl rfl ?_; apply Exists.intro; refine ⟨?_, ?_⟩; · (intro c a w' hR; intro h1; (first | (have e1 : _ = _ := h1) | skip); intro h2; (first | (have e2 : _ = _ := h2) | skip); go_simp; rfl)) | (refine wpZ_val rfl rfl (fun _ => (by first | exact runs0 | exact runs1 rfl)) Ext.refl rfl ?_; apply Exists.intro; refine ⟨?_, ?_⟩; · (intro c a w' hR; intro h1; (first | (have e1 : _ = _ := h1) | skip); go_simp; rfl)) | (refine wpZ_val rfl rfl (fun _ => (by first | exact runs0 | exact runs1 rfl)) Ext.refl rfl ?_; apply Exists.intro; refine ⟨?_, ?_⟩; · (intro c a w' hR; go_simp; rfl)) | (refine wpZ_val rfl rfl (fun _ => (by first | exact runs0 | exact runs1 rfl)) Ext.refl rfl ?_; apply Exists.intro; refine ⟨?_, ?_⟩; · (intro c a w' hR; intro h1; (first | (have e1 : _ = _ := h1) | skip); intro h2; (first | (have e2 : _ = _ := h2) | skip); intro h3; (first | (have e3 : _ = _ := h3) | skip); go_simp; rfl)))
          refine wpZ_callA (fun _ v _ => ∃ A c, v = .slice A M.length c) rfl rfl (by first | exact runs0 | exact runs1 rfl) rfl (⟨fun _ _ _ _ h _ => h, fun _ _ _ _ h _ => h⟩) ?_ ?_
          · intro a w' hR hS h1 K hK
            have e1 : _ = _ := h1
            obtain ⟨lv, lx, hT⟩ := hS
            obtain ⟨d0, d1, d2, -, -⟩ := hT.x.cells
            obtain ⟨A9, c9, rfl⟩ := hT.x.own.re.form
            go_simp
            exact hK _ _ (Ext.refl _) ⟨_, _, rfl⟩
          refine wpZ_val rfl rfl (fun _ => (by first | exact runs0 | exact runs1 rfl)) Ext.refl rfl ?_; apply Exists.intro; refine ⟨?_, ?_⟩
          · intro c a w' hR h1
            obtain ⟨A9, c9, e1⟩ := h1
            have e1 : _ = _ := e1
            go_simp
            rfl
          repeat (first | (refine wpZ_move0 rfl rfl (fun _ => (by first | exact runs0 | exact runs1 rfl)) Ext.refl rfl rfl (fun _ => rfl) ?_; apply Exists.intro; refine ⟨?_, ?_⟩; · (go_simp; rfl)) | (refine wpZ_val rfl rfl (fun _ => (by first | exact runs0 | exact runs1 rfl)) Ext.refl rfl ?_; apply Exists.intro; refine ⟨?_, ?_⟩; · (intro c a w' hR; intro h1; (first | (have e1 : _ = _ := h1) | skip); intro h2; (first | (have e2 : _ = _ := h2) | skip); go_simp; rfl)) | (refine wpZ_val rfl rfl (fun _ => (by first | exact runs0 | exact runs1 rfl)) Ext.refl rfl ?_; apply Exists.intro; refine ⟨?_, ?_⟩; · (intro c a w' hR; intro h1; (first | (have e1 : _ = _ := h1) | skip); go_simp; rfl)) | (refine wpZ_val rfl rfl (fun _ => (by first | exact runs0 | exact runs1 rfl)) Ext.refl rfl ?_; apply Exists.intro; refine ⟨?_, ?_⟩; · (intro c a w' hR; go_simp; rfl)) | (refine wpZ_val rfl rfl (fun _ => (by first | exact runs0 | exact runs1 rfl)) Ext.refl rfl ?_; apply Exists.intro; refine ⟨?_, ?_⟩; · (intro c a w' hR; intro h1; (first | (have e1 : _ = _ := h1) | skip); intro h2; (first | (have e2 : _ = _ := h2) | skip); intro h3; (first | (have e3 : _ = _ := h3) | skip); go_simp; rfl)))
          refine wpZ_callA (fun _ v _ => v = .int .i64 a) rfl rfl (by first | exact runs0 | exact runs1 rfl) rfl (keptC_eq) ?_ ?_
          · intro a w' hR hS h1 K hK
            have e1 : _ = _ := h1
            obtain ⟨lv, lx, hT⟩ := hS
            go_simp
            refine (limit_any hT.r).mono ?_
            rintro e w2 ⟨rfl, rfl⟩
            exact hK _ _ (Ext.refl _) rfl
          repeat (first | (refine wpZ_move0 rfl rfl (fun _ => (by first | exact runs0 | exact runs1 rfl)) Ext.refl rfl rfl (fun _ => rfl) ?_; apply Exists.intro; refine ⟨?_, ?_⟩; · (go_simp; rfl)) | (refine wpZ_val rfl rfl (fun _ => (by first | exact runs0 | exact runs1 rfl)) Ext.refl rfl ?_; apply Exists.intro; refine ⟨?_, ?_⟩; · (intro c a w' hR; intro h1; (first | (have e1 : _ = _ := h1) | skip); intro h2; (first | (have e2 : _ = _ := h2) | skip); go_simp; rfl)) | (refine wpZ_val rfl rfl (fun _ => (by first | exact runs0 | exact runs1 rfl)) Ext.refl rfl ?_; apply Exists.intro; refine ⟨?_, ?_⟩; · (intro c a w' hR; intro h1; (first | (have e1 : _ = _ := h1) | skip); go_simp; rfl)) | (refine wpZ_val rfl rfl (fun _ => (by first | exact runs0 | exact runs1 rfl)) Ext.refl rfl ?_; apply Exists.intro; refine ⟨?_, ?_⟩; · (intro c a w' hR; go_simp; rfl)) | (refine wpZ_val rfl rfl (fun _ => (by first | exact runs0 | exact runs1 rfl)) Ext.refl rfl ?_; apply Exists.intro; refine ⟨?_, ?_⟩; · (intro c a w' hR; intro h1; (first | (have e1 : _ = _ := h1) | skip); intro h2; (first | (have e2 : _ = _ := h2) | skip); intro h3; (first | (have e3 : _ = _ := h3) | skip); go_simp; rfl)))
          refine wpZ_callA (fun _ v _ => v = .int .i64 a) rfl rfl (by first | exact runs0 | exact runs1 rfl) rfl (keptC_eq) ?_ ?_
          · intro a w' hR hS h1 K hK
            have e1 : _ = _ := h1
            obtain ⟨lv, lx, hT⟩ := hS
            obtain ⟨d0, d1, d2, -, -⟩ := hT.x.cells
            go_simp
            exact hK _ _ (Ext.refl _) rfl
          repeat (first | (refine wpZ_move0 rfl rfl (fun _ => (by first | exact runs0 | exact runs1 rfl)) Ext.refl rfl rfl (fun _ => rfl) ?_; apply Exists.intro; refine ⟨?_, ?_⟩; · (go_simp; rfl)) | (refine wpZ_val rfl rfl (fun _ => (by first | exact runs0 | exact runs1 rfl)) Ext.refl rfl ?_; apply Exists.intro; refine ⟨?_, ?_⟩; · (intro c a w' hR; intro h1; (first | (have e1 : _ = _ := h1) | skip); intro h2; (first | (have e2 : _ = _ := h2) | skip); go_simp; rfl)) | (refine wpZ_val rfl rfl (fun _ => (by first | exact runs0 | exact runs1 rfl)) Ext.refl rfl ?_; apply Exists.intro; refine ⟨?_, ?_⟩; · (intro c a w' hR; intro h1; (first | (have e1 : _ = _ := h1) | skip); go_simp; rfl)) | (refine wpZ_val rfl rfl (fun _ => (by first | exact runs0 | exact runs1 rfl)) Ext.refl rfl ?_; apply Exists.intro; refine ⟨?_, ?_⟩; · (intro c a w' hR; go_simp; rfl)) | (refine wpZ_val rfl rfl (fun _ => (by first | exact runs0 | exact runs1 rfl)) Ext.refl rfl ?_; apply Exists.intro; refine ⟨?_, ?_⟩; · (intro c a w' hR; intro h1; (first | (have e1 : _ = _ := h1) | skip); intro h2; (first | (have e2 : _ = _ := h2) | skip); intro h3; (first | (have e3 : _ = _ := h3) | skip); go_simp; rfl)))
          refine wpZ_callA (fun _ v _ => v = .int .i64 c2) rfl rfl (by first | exact runs0 | exact runs1 rfl) rfl (keptC_eq) ?_ ?_
          · intro a w' hR hS h1 K hK
            have e1 : _ = _ := h1
            obtain ⟨lv, lx, hT⟩ := hS
            go_simp
            refine (most_any hT.r).mono ?_
            rintro e w2 ⟨rfl, rfl⟩
            exact hK _ _ (Ext.refl _) rfl
          repeat (first | (refine wpZ_move0 rfl rfl (fun _ => (by first | exact runs0 | exact runs1 rfl)) Ext.refl rfl rfl (fun _ => rfl) ?_; apply Exists.intro; refine ⟨?_, ?_⟩; · (go_simp; rfl)) | (refine wpZ_val rfl rfl (fun _ => (by first | exact runs0 | exact runs1 rfl)) Ext.refl rfl ?_; apply Exists.intro; refine ⟨?_, ?_⟩; · (intro c a w' hR; intro h1; (first | (have e1 : _ = _ := h1) | skip); intro h2; (first | (have e2 : _ = _ := h2) | skip); go_simp; rfl)) | (refine wpZ_val rfl rfl (fun _ => (by first | exact runs0 | exact runs1 rfl)) Ext.refl rfl ?_; apply Exists.intro; refine ⟨?_, ?_⟩; · (intro c a w' hR; intro h1; (first | (have e1 : _ = _ := h1) | skip); go_simp; rfl)) | (refine wpZ_val rfl rfl (fun _ => (by first | exact runs0 | exact runs1 rfl)) Ext.refl rfl ?_; apply Exists.intro; refine ⟨?_, ?_⟩; · (intro c a w' hR; go_simp; rfl)) | (refine wpZ_val rfl rfl (fun _ => (by first | exact runs0 | exact runs1 rfl)) Ext.refl rfl ?_; apply Exists.intro; refine ⟨?_, ?_⟩; · (intro c a w' hR; intro h1; (first | (have e1 : _ = _ := h1) | skip); intro h2; (first | (have e2 : _ = _ := h2) | skip); intro h3; (first | (have e3 : _ = _ := h3) | skip); go_simp; rfl)))
          refine wpZ_callA (fun _ v _ => v = .int .i64 c2) rfl rfl (by first | exact runs0 | exact runs1 rfl) rfl (keptC_eq) ?_ ?_
          · intro a w' hR hS h1 K hK
            have e1 : _ = _ := h1
            obtain ⟨lv, lx, hT⟩ := hS
            obtain ⟨d0, d1, d2, -, -⟩ := hT.x.cells
            go_simp
            exact hK _ _ (Ext.refl _) rfl
          repeat (first | (refine wpZ_move0 rfl rfl (fun _ => (by first | exact runs0 | exact runs1 rfl)) Ext.refl rfl rfl (fun _ => rfl) ?_; apply Exists.intro; refine ⟨?_, ?_⟩; · (go_simp; rfl)) | (refine wpZ_val rfl rfl (fun _ => (by first | exact runs0 | exact runs1 rfl)) Ext.refl rfl ?_; apply Exists.intro; refine ⟨?_, ?_⟩; · (intro c a w' hR; intro h1; (first | (have e1 : _ = _ := h1) | skip); intro h2; (first | (have e2 : _ = _ := h2) | skip); go_simp; rfl)) | (refine wpZ_val rfl rfl (fun _ => (by first | exact runs0 | exact runs1 rfl)) Ext.refl rfl ?_; apply Exists.intro; refine ⟨?_, ?_⟩; · (intro c a w' hR; intro h1; (first | (have e1 : _ = _ := h1) | skip); go_simp; rfl)) | (refine wpZ_val rfl rfl (fun _ => (by first | exact runs0 | exact runs1 rfl)) Ext.refl rfl ?_; apply Exists.intro; refine ⟨?_, ?_⟩; · (intro c a w' hR; go_simp; rfl)) | (refine wpZ_val rfl rfl (fun _ => (by first | exact runs0 | exact runs1 rfl)) Ext.refl rfl ?_; apply Exists.intro; refine ⟨?_, ?_⟩; · (intro c a w' hR; intro h1; (first | (have e1 : _ = _ := h1) | skip); intro h2; (first | (have e2 : _ = _ := h2) | skip); intro h3; (first | (have e3 : _ = _ := h3) | skip); go_simp; rfl)))
          refine wpZ_callA (fun c v w => 1 ≤ c ∧ (c ≤ 1 → RE w v (Ent.srt M))) rfl rfl (by first | exact runs0 | exact runs1 rfl) rfl (keptC_at fun _ _ _ h k => RE.ext h k) ?_ ?_
          · intro a w' hR hS h1 K hK
            have e1 : _ = _ := h1
            obtain ⟨lv, lx, hT⟩ := hS
            go_simp
            refine (all_any hT.r).mono ?_
            rintro e w2 ⟨u9, rfl, ho, he⟩
            exact hK _ _ he ⟨Nat.le_refl _, fun _ => ho.re⟩
          repeat (first | (refine wpZ_move0 rfl rfl (fun _ => (by first | exact runs0 | exact runs1 rfl)) Ext.refl rfl rfl (fun _ => rfl) ?_; apply Exists.intro; refine ⟨?_, ?_⟩; · (go_simp; rfl)) | (refine wpZ_val rfl rfl (fun _ => (by first | exact runs0 | exact runs1 rfl)) Ext.refl rfl ?_; apply Exists.intro; refine ⟨?_, ?_⟩; · (intro c a w' hR; intro h1; (first | (have e1 : _ = _ := h1) | skip); intro h2; (first | (have e2 : _ = _ := h2) | skip); go_simp; rfl)) | (refine wpZ_val rfl rfl (fun _ => (by first | exact runs0 | exact runs1 rfl)) Ext.refl rfl ?_; apply Exists.intro; refine ⟨?_, ?_⟩; · (intro c a w' hR; intro h1; (first | (have e1 : _ = _ := h1) | skip); go_simp; rfl)) | (refine wpZ_val rfl rfl (fun _ => (by first | exact runs0 | exact runs1 rfl)) Ext.refl rfl ?_; apply Exists.intro; refine ⟨?_, ?_⟩; · (intro c a w' hR; go_simp; rfl)) | (refine wpZ_val rfl rfl (fun _ => (by first | exact runs0 | exact runs1 rfl)) Ext.refl rfl ?_; apply Exists.intro; refine ⟨?_, ?_⟩; · (intro c a w' hR; intro h1; (first | (have e1 : _ = _ := h1) | skip); intro h2; (first | (have e2 : _ = _ := h2) | skip); intro h3; (first | (have e3 : _ = _ := h3) | skip); go_simp; rfl)))
          refine wpZ_callA (fun c v w => 1 ≤ c ∧ (c ≤ 1 → RE w v M)) rfl rfl (by first | exact runs0 | exact runs1 rfl) rfl (keptC_at fun _ _ _ h k => RE.ext h k) ?_ ?_
          · intro a w' hR hS h1 K hK
            have e1 : _ = _ := h1
            obtain ⟨lv, lx, hT⟩ := hS
            obtain ⟨d0, d1, d2, -, -⟩ := hT.x.cells
            go_simp
            exact hK _ _ (Ext.refl _) ⟨Nat.le_refl _, fun _ => hT.x.own.re⟩
          refine wpZ_callA (fun c v w => 1 ≤ c ∧ (c ≤ 1 → RE w v (Ent.srt M))) rfl rfl (by first | exact runs0 | exact runs1 rfl) rfl (keptC_at fun _ _ _ h k => RE.ext h k) ?_ ?_
          · intro a w' hR hS h1 K hK
            obtain ⟨x, ex, fx⟩ : ∃ x, a.tmps.getD 103 undef = x ∧ (fun v w => 1 ≤ 0 + 1 ∧ (0 + 1 ≤ 1 → RE w v M)) x w' := ⟨_, rfl, h1⟩
            obtain ⟨lv, lx, hT⟩ := hS
            have hbd := hT.x.bd
            go_simp
            refine ((rsortE_any M x w' (fx.2 (Nat.le_refl _)) (by omega))).mono ?_
            rintro e w2 ⟨u9, rfl, ho, he⟩
            exact hK _ _ he ⟨Nat.le_refl _, fun _ => ho.re⟩
          refine wpZ_callA (fun _ v _ => v = .bool true) rfl rfl (by first | exact runs0 | exact runs1 rfl) rfl (keptC_eq) ?_ ?_
          · intro a w' hR hS h1 h2 K hK
            obtain ⟨x, ex, fx⟩ : ∃ x, a.tmps.getD 99 undef = x ∧ (fun v w => 1 ≤ 0 + 1 ∧ (0 + 1 ≤ 1 → RE w v (Ent.srt M))) x w' := ⟨_, rfl, h1⟩
            obtain ⟨y, ey, fy⟩ : ∃ x, a.tmps.getD 104 undef = x ∧ (fun v w => 1 ≤ 0 + 1 ∧ (0 + 1 ≤ 1 → RE w v (Ent.srt M))) x w' := ⟨_, rfl, h2⟩
            go_simp
            refine (sameE_is x y (Ent.srt M) w' (fx.2 (Nat.le_refl _)) (fy.2 (Nat.le_refl _))).mono ?_
            rintro e w2 ⟨rfl, he⟩
            exact hK _ _ he rfl
          repeat (first | (refine wpZ_move0 rfl rfl (fun _ => (by first | exact runs0 | exact runs1 rfl)) Ext.refl rfl rfl (fun _ => rfl) ?_; apply Exists.intro; refine ⟨?_, ?_⟩; · (go_simp; rfl)) | (refine wpZ_val rfl rfl (fun _ => (by first | exact runs0 | exact runs1 rfl)) Ext.refl rfl ?_; apply Exists.intro; refine ⟨?_, ?_⟩; · (intro c a w' hR; intro h1; (first | (have e1 : _ = _ := h1) | skip); intro h2; (first | (have e2 : _ = _ := h2) | skip); go_simp; rfl)) | (refine wpZ_val rfl rfl (fun _ => (by first | exact runs0 | exact runs1 rfl)) Ext.refl rfl ?_; apply Exists.intro; refine ⟨?_, ?_⟩; · (intro c a w' hR; intro h1; (first | (have e1 : _ = _ := h1) | skip); go_simp; rfl)) | (refine wpZ_val rfl rfl (fun _ => (by first | exact runs0 | exact runs1 rfl)) Ext.refl rfl ?_; apply Exists.intro; refine ⟨?_, ?_⟩; · (intro c a w' hR; go_simp; rfl)) | (refine wpZ_val rfl rfl (fun _ => (by first | exact runs0 | exact runs1 rfl)) Ext.refl rfl ?_; apply Exists.intro; refine ⟨?_, ?_⟩; · (intro c a w' hR; intro h1; (first | (have e1 : _ = _ := h1) | skip); intro h2; (first | (have e2 : _ = _ := h2) | skip); intro h3; (first | (have e3 : _ = _ := h3) | skip); go_simp; rfl)))
          refine wpZ_callA (fun c v w => 1 ≤ c ∧ (c ≤ 1 → RP w v (Ent.frt M))) rfl rfl (by first | exact runs0 | exact runs1 rfl) rfl (keptC_at fun _ _ _ h k => RP.ext h k) ?_ ?_
          · intro a w' hR hS h1 K hK
            have e1 : _ = _ := h1
            obtain ⟨lv, lx, hT⟩ := hS
            go_simp
            refine (runFront_any hT.r).mono ?_
            rintro e w2 ⟨u9, rfl, ho, he⟩
            exact hK _ _ he ⟨Nat.le_refl _, fun _ => RE.rp (OE.re (OP.oe ho))⟩
          repeat (first | (refine wpZ_move0 rfl rfl (fun _ => (by first | exact runs0 | exact runs1 rfl)) Ext.refl rfl rfl (fun _ => rfl) ?_; apply Exists.intro; refine ⟨?_, ?_⟩; · (go_simp; rfl)) | (refine wpZ_val rfl rfl (fun _ => (by first | exact runs0 | exact runs1 rfl)) Ext.refl rfl ?_; apply Exists.intro; refine ⟨?_, ?_⟩; · (intro c a w' hR; intro h1; (first | (have e1 : _ = _ := h1) | skip); intro h2; (first | (have e2 : _ = _ := h2) | skip); go_simp; rfl)) | (refine wpZ_val rfl rfl (fun _ => (by first | exact runs0 | exact runs1 rfl)) Ext.refl rfl ?_; apply Exists.intro; refine ⟨?_, ?_⟩; · (intro c a w' hR; intro h1; (first | (have e1 : _ = _ := h1) | skip); go_simp; rfl)) | (refine wpZ_val rfl rfl (fun _ => (by first | exact runs0 | exact runs1 rfl)) Ext.refl rfl ?_; apply Exists.intro; refine ⟨?_, ?_⟩; · (intro c a w' hR; go_simp; rfl)) | (refine wpZ_val rfl rfl (fun _ => (by first | exact runs0 | exact runs1 rfl)) Ext.refl rfl ?_; apply Exists.intro; refine ⟨?_, ?_⟩; · (intro c a w' hR; intro h1; (first | (have e1 : _ = _ := h1) | skip); intro h2; (first | (have e2 : _ = _ := h2) | skip); intro h3; (first | (have e3 : _ = _ := h3) | skip); go_simp; rfl)))
          refine wpZ_callA (fun c v w => 1 ≤ c ∧ (c ≤ 1 → RP w v (Ent.frt M))) rfl rfl (by first | exact runs0 | exact runs1 rfl) rfl (keptC_at fun _ _ _ h k => RP.ext h k) ?_ ?_
          · intro a w' hR hS h1 K hK
            have e1 : _ = _ := h1
            obtain ⟨lv, lx, hT⟩ := hS
            go_simp
            refine (rrunFront_any hT.x).mono ?_
            rintro e w2 ⟨u9, rfl, ho, he⟩
            exact hK _ _ he ⟨Nat.le_refl _, fun _ => ho⟩
          refine wpZ_callA (fun _ v _ => v = .bool true) rfl rfl (by first | exact runs0 | exact runs1 rfl) rfl (keptC_eq) ?_ ?_
          · intro a w' hR hS h1 h2 K hK
            obtain ⟨x, ex, fx⟩ : ∃ x, a.tmps.getD 110 undef = x ∧ (fun v w => 1 ≤ 0 + 1 ∧ (0 + 1 ≤ 1 → RP w v (Ent.frt M))) x w' := ⟨_, rfl, h1⟩
            obtain ⟨y, ey, fy⟩ : ∃ x, a.tmps.getD 112 undef = x ∧ (fun v w => 1 ≤ 0 + 1 ∧ (0 + 1 ≤ 1 → RP w v (Ent.frt M))) x w' := ⟨_, rfl, h2⟩
            go_simp
            refine (sameM_is x y (Ent.frt M) w' (fx.2 (Nat.le_refl _)) (fy.2 (Nat.le_refl _))).mono ?_
            rintro e w2 ⟨rfl, he⟩
            exact hK _ _ he rfl
          repeat (first | (refine wpZ_move0 rfl rfl (fun _ => (by first | exact runs0 | exact runs1 rfl)) Ext.refl rfl rfl (fun _ => rfl) ?_; apply Exists.intro; refine ⟨?_, ?_⟩; · (go_simp; rfl)) | (refine wpZ_val rfl rfl (fun _ => (by first | exact runs0 | exact runs1 rfl)) Ext.refl rfl ?_; apply Exists.intro; refine ⟨?_, ?_⟩; · (intro c a w' hR; intro h1; (first | (have e1 : _ = _ := h1) | skip); intro h2; (first | (have e2 : _ = _ := h2) | skip); go_simp; rfl)) | (refine wpZ_val rfl rfl (fun _ => (by first | exact runs0 | exact runs1 rfl)) Ext.refl rfl ?_; apply Exists.intro; refine ⟨?_, ?_⟩; · (intro c a w' hR; intro h1; (first | (have e1 : _ = _ := h1) | skip); go_simp; rfl)) | (refine wpZ_val rfl rfl (fun _ => (by first | exact runs0 | exact runs1 rfl)) Ext.refl rfl ?_; apply Exists.intro; refine ⟨?_, ?_⟩; · (intro c a w' hR; go_simp; rfl)) | (refine wpZ_val rfl rfl (fun _ => (by first | exact runs0 | exact runs1 rfl)) Ext.refl rfl ?_; apply Exists.intro; refine ⟨?_, ?_⟩; · (intro c a w' hR; intro h1; (first | (have e1 : _ = _ := h1) | skip); intro h2; (first | (have e2 : _ = _ := h2) | skip); intro h3; (first | (have e3 : _ = _ := h3) | skip); go_simp; rfl)))
          refine wpZ_done ?_
          intro w5 hx5 hS5
          iterate 14 (rintro _ rfl)
          rintro v75 h75
          iterate 23 (rintro _ rfl)
          rintro v99 h99
          iterate 3 (rintro _ rfl)
          rintro v103 h103
          rintro v104 h104
          iterate 5 (rintro _ rfl)
          rintro v110 h110
          iterate 1 (rintro _ rfl)
          rintro v112 h112
          iterate 3 (rintro _ rfl)
          dsimp only [FinV]
          go_simp
          have hx5 : ExtQ (fun k => w.heap.size ≤ k) _ w5 := hx5
          have HE5 := Lib.hid (((ExtQ.of HE.out).trans hx5).ext (fun k q => q))
          have HT5 := Lib.hid hS5
          clear h75 h99 h103 h104 h110 h112 hx5 hS5
          go_wp2
          exact ⟨⟨k + 1, HLT.out, by go_num, ⟨_, _, HT5.out⟩, HE5.out⟩, by have := HLT.out; simp [intOf]; omega⟩
      · have g2 : ¬ (k : Int) < 80 := by omega
        clear hext
        go_wp2
        go_ret
        exact ⟨rfl, HE.out⟩
    · obtain rfl : k = l.length := by omega
      have g1 : ¬ (l.length : Int) < (l.length : Int) := by omega
      clear hext
      go_wp2
      go_ret
      exact ⟨rfl, HE.out⟩
theorem runDoes_row (a : Int) (v : Value) (l : List OpD) (w : World) (hv : RS 6 OpR w v l) :
    Calls Try.prog 5 #[.int .i64 a, v] w fun e w' => e = .returned (.bool true) ∧ Ext w w' := by
  by_cases h : a < 1 ∨ 4096 < a
  · exact runDoes_bad a v l w hv h
  · exact runDoes_ok a v l w hv (by omega) (by omega)
end Go.Proofs.Ytbokblklldphgaa
