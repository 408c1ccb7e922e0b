/-
  The walks of the document's answer on counts: the order of two, the sum, two lists.
-/
import Derived.Test.YtngdlahgihbmhaaCntR
namespace Go.Proofs.Ytngdlahgihbmhaa
open Go.RowKit Go.Ox Go.Shelf
set_option linter.unusedVariables false
set_option linter.unusedSimpArgs false
attribute [local irreducible] OP RP

set_option maxRecDepth 100000 in
set_option maxHeartbeats 1000000 in
theorem rbefore_any (x y : Cnt.S) (w : World) : Calls Try.prog 24 #[sV x, sV y] w fun e w' => e = .returned (.bool (decide (Cnt.klt x.1 y.1))) ∧ Ext w w' := by
  have HK := Lib.hid (show ∀ m : Int, m = Mom.cmp x.1.2 y.1.2 → (x.1.1 = y.1.1) → decide (m < 0) = decide (Cnt.klt x.1 y.1) from fun m hm hq => by
    subst hm
    rw [decide_eq_decide, Mom.cmp_lt]
    unfold Cnt.klt
    constructor
    · intro h; exact .inr ⟨hq, h⟩
    · rintro (h | h)
      · rw [hq] at h; exact absurd h (Mom.lt_irrefl _)
      · exact h.2)
  have HK2 := Lib.hid (show x.1.1.1 ≠ y.1.1.1 → decide (x.1.1.1 < y.1.1.1) = decide (Cnt.klt x.1 y.1) from fun hq => by
    rw [decide_eq_decide]
    unfold Cnt.klt Mom.lt
    constructor
    · intro h; exact .inl (.inl h)
    · rintro ((h | h) | h)
      · exact h
      · exact absurd h.1 hq
      · exact absurd (by rw [h.1]) hq)
  have HK3 := Lib.hid (show x.1.1.1 = y.1.1.1 → x.1.1.2 ≠ y.1.1.2 → decide (x.1.1.2 < y.1.1.2) = decide (Cnt.klt x.1 y.1) from fun hq hq2 => by
    rw [decide_eq_decide]
    unfold Cnt.klt Mom.lt
    constructor
    · intro h; exact .inl (.inr ⟨hq, h⟩)
    · rintro ((h | h) | h)
      · omega
      · exact h.2
      · exact absurd (by rw [h.1]) hq2)
  obtain ⟨⟨⟨x1, x2⟩, x3, x4⟩, x5⟩ := x
  obtain ⟨⟨⟨y1, y2⟩, y3, y4⟩, y5⟩ := y
  dsimp only at *
  obtain ⟨w2, hw2, hx, c0, c1, c2, c3, c4, d0, d1, d2, d3, d4⟩ := box5 w 34 (.int .i64 x1) (.int .i64 x2) (.int .i64 x3) (.int .i64 x4) (.int .i64 x5) (.int .i64 y1) (.int .i64 y2) (.int .i64 y3) (.int .i64 y4) (.int .i64 y5)
  have HX := Lib.hid hx.ext
  have HW2 := Lib.hid hw2
  clear hx hw2
  by_cases h1 : x1 = y1
  · subst h1
    by_cases h2 : x2 = y2
    · subst h2
      have HR := Lib.hid (HK.out _ rfl rfl)
      have HC := Lib.hid (fun w => rcompare_any (x3, x4) (y3, y4) w)
      generalize Mom.cmp (x3, x4) (y3, y4) = z at *
      generalize decide (Cnt.klt ((x1, x2), x3, x4) ((x1, x2), y3, y4)) = r at *
      have e1 : (x1 != x1) = false := by simp
      have e2 : (x2 != x2) = false := by simp
      clear HK HK2 HK3
      go_enter Try.func24, Try.ntmps24
      go_upto_region 1 with fail
      rw [← HW2.out]
      go_wp2_with fail
      refine (HC.out _).mono ?_
      rintro e w3 ⟨rfl, he3⟩
      go_wp2
      go_ret
      rw [← HR.out]
      exact ⟨rfl, HX.out.trans he3⟩
    · have HR := Lib.hid (HK3.out rfl h2)
      have e1 : (x1 != x1) = false := by simp
      have e2 : (x2 != y2) = true := by simpa using h2
      generalize decide (Cnt.klt ((x1, x2), x3, x4) ((x1, y2), y3, y4)) = r at *
      clear HK HK2 HK3 h2
      go_enter Try.func24, Try.ntmps24
      go_upto_region 1 with fail
      rw [← HW2.out]
      go_wp2
      go_ret
      rw [← HR.out]
      exact ⟨rfl, HX.out⟩
  · have HR := Lib.hid (HK2.out h1)
    have e1 : (x1 != y1) = true := by simpa using h1
    generalize decide (Cnt.klt ((x1, x2), x3, x4) ((y1, y2), y3, y4)) = r at *
    clear HK HK2 HK3 h1
    go_enter Try.func24, Try.ntmps24
    go_upto_region 1 with fail
    rw [← HW2.out]
    go_wp2
    go_ret
    rw [← HR.out]
    exact ⟨rfl, HX.out⟩

set_option maxRecDepth 100000 in
set_option maxHeartbeats 2000000 in
theorem rtotal_any (w : World) (g : Nat) (L : List Cnt.S) (h : XM w g L) (hl : L.length ≤ 1000000) :
    Calls Try.prog 17 #[.pointer (some ⟨g, 0, none⟩)] w fun e w' => e = .returned (.int .i64 (Cnt.tot L)) ∧ Ext w w' := by
  obtain ⟨v, hb, hr⟩ := h.row
  have hgd := h.good
  obtain ⟨A, c, rfl⟩ := hr.form
  have HR := Lib.hid hr
  have HB := Lib.hid hb
  clear h hb hr
  go_enter Try.func17, Try.ntmps17
  go_wp2
  go_loopw [3, 4] (fun o i wr => ∃ k : Nat, k ≤ L.length ∧ i = .int .i64 k ∧ o = .int .i64 (Cnt.tot (L.take k)) ∧ Ext w wr) (fun _ i _ => L.length - (intOf i).toNat)
  case atStart => exact ⟨0, Nat.zero_le _, rfl, rfl, Ext.refl _⟩
  case round =>
    obtain ⟨k, hk, rfl, rfl, hext⟩ := hrel
    have HX := Lib.hid hext
    have cb : wr.cell? ⟨g, 0, none⟩ = some (.slice A L.length c) := (HB.out.ext hext).cell 0
    by_cases hlt : k < L.length
    · have g1 : (k : Int) < (L.length : Int) := by omega
      have g0 : 0 ≤ (k : Int) := by omega
      obtain ⟨bA, oA, rfl, c0, c1, c2, c3, c4⟩ := re5 (HR.out.ext hext) hlt
      have hst := tot_s L k hlt
      have hb1 := tot_lim hgd hl k
      have hb2 := hgd.num _ (List.getElem_mem hlt)
      have HST := Lib.hid hst
      clear hst
      generalize Cnt.tot (L.take k) = z at *
      generalize L[k] = x at *
      obtain ⟨⟨⟨x1, x2⟩, x3, x4⟩, x5⟩ := x
      dsimp only at *
      obtain ⟨hb3, hb4⟩ := hb1
      obtain ⟨hb5, hb6⟩ := hb2
      clear hext
      go_wp2
      exact ⟨⟨k + 1, by omega, by go_num, by rw [HST.out], HX.out⟩, by simp [intOf]; omega⟩
    · obtain rfl : k = L.length := by omega
      rw [List.take_length]
      have g1 : ¬ (L.length : Int) < (L.length : Int) := by omega
      clear hext
      go_wp2
      go_ret
      exact ⟨rfl, HX.out⟩

set_option maxRecDepth 100000 in
set_option maxHeartbeats 400000 in
theorem rsame_len (A B : Option Addr) (n m c d : Nat) (w : World) (hne : n ≠ m) : Calls Try.prog 14 #[.slice A n c, .slice B m d] w fun e w' => e = .returned (.bool false) ∧ w = w' := by
  have h1 : ((n : Int) != (m : Int)) = true := by rw [bne_iff_ne]; omega
  go_enter Try.func14, Try.ntmps14
  go_wp2
  go_ret
  exact ⟨rfl, rfl⟩
set_option maxRecDepth 100000 in
set_option maxHeartbeats 2000000 in
theorem rsame_any (v u : Value) (l r : List Cnt.S) (w : World) (hv : RE w v l) (hu : RE w u r) : Calls Try.prog 14 #[v, u] w fun e w' => e = .returned (.bool (decide (l = r))) ∧ Ext w w' := by
  obtain ⟨A, c, rfl⟩ := hv.form
  obtain ⟨B, d, rfl⟩ := hu.form
  by_cases hl : l.length = r.length
  · have HV := Lib.hid hv
    have HU := Lib.hid hu
    have HL := Lib.hid hl
    have hlb : l.length ≤ 9223372036854775807 := by have := hv.nc; unfold maxLen at this; omega
    rw [← hl] at HU ⊢
    clear hv hu hl
    have hE := neS
    have hG := guardS
    go_enter Try.func14, Try.ntmps14
    go_wp2
    go_loopw [5] (fun i wr => ∃ k : Nat, k ≤ l.length ∧ i = .int .i64 k ∧ l.take k = r.take k ∧ Ext w wr) (fun i _ => l.length - (intOf i).toNat)
    case atStart => exact ⟨0, Nat.zero_le _, rfl, by simp, Ext.refl _⟩
    case round =>
      obtain ⟨k, hk, rfl, ht, hext⟩ := hrel
      have HT := Lib.hid ht
      have HX := Lib.hid hext
      clear ht
      by_cases hlt : k < l.length
      · have g1 : (k : Int) < (l.length : Int) := by omega
        have g0 : 0 ≤ (k : Int) := by omega
        have hlr : k < r.length := by have := HL.out; omega
        obtain ⟨b1, o1, rfl, c0, c1, c2, c3, c4⟩ := re5 (HV.out.ext hext) hlt
        obtain ⟨b2, o2, rfl, d0, d1, d2, d3, d4⟩ := re5 (HU.out.ext hext) hlr
        obtain ⟨hst, hsn⟩ := list_eq_atE l r k hlt hlr HT.out
        have HST := Lib.hid hst
        have HSN := Lib.hid hsn
        clear hst hsn hext
        generalize l[k] = x at *
        generalize r[k] = y at *
        have hExy := fun w => neS x y w
        have hbx : x = y → stB x y = true := fun h => by unfold stB; simpa using h
        have hbn : x ≠ y → stB x y = false := fun h => by unfold stB; simpa using h
        by_cases hxy : x = y
        · have HN := Lib.hid (HST.out hxy)
          have hd := hbx hxy
          rw [hd] at hExy
          clear hxy HST HSN hbx hbn hd hE
          obtain ⟨⟨⟨x1, x2⟩, x3, x4⟩, x5⟩ := x
          obtain ⟨⟨⟨y1, y2⟩, y3, y4⟩, y5⟩ := y
          dsimp only [sV] at *
          go_wp2
          refine wp_region_ext (by kernel_rfl) (by rfl) (by rfl) (by kernel_rfl) ?_
          repeat (first | ((first | (refine wpM_move00 Ext.refl rfl rfl rfl ?_) | (refine wpM_move01 Ext.refl rfl rfl rfl rfl ?_)); apply Exists.intro; refine ⟨?_, ?_⟩; · (go_simp; rfl)) | (first | (refine wpM_movek0 Ext.refl rfl rfl rfl ?_) | (refine wpM_movek1 Ext.refl rfl rfl rfl rfl ?_)) | ((first | (refine wpM_val0 Ext.refl rfl ?_) | (refine wpM_val1 Ext.refl rfl rfl ?_)); apply Exists.intro; refine ⟨?_, ?_⟩; · (intro a w' hR; intro h1; (first | (have e1 : _ = _ := h1) | skip); intro h2; (first | (have e2 : _ = _ := h2) | skip); go_simp; rfl)) | ((first | (refine wpM_val0 Ext.refl rfl ?_) | (refine wpM_val1 Ext.refl rfl rfl ?_)); apply Exists.intro; refine ⟨?_, ?_⟩; · (intro a w' hR; intro h1; (first | (have e1 : _ = _ := h1) | skip); go_simp; rfl)) | ((first | (refine wpM_val0 Ext.refl rfl ?_) | (refine wpM_val1 Ext.refl rfl rfl ?_)); apply Exists.intro; refine ⟨?_, ?_⟩; · (intro a w' hR; go_simp; rfl)) | ((first | (refine wpM_val0 Ext.refl rfl ?_) | (refine wpM_val1 Ext.refl rfl rfl ?_)); apply Exists.intro; refine ⟨?_, ?_⟩; · (intro a w' hR; intro h1; (first | (have e1 : _ = _ := h1) | skip); intro h2; (first | (have e2 : _ = _ := h2) | skip); intro h3; (first | (have e3 : _ = _ := h3) | skip); go_simp; rfl)) | (refine wpM_skip1 rfl ?_))
          (first | (refine wpM_val0 Ext.refl rfl ?_) | (refine wpM_val1 Ext.refl rfl rfl ?_)); apply Exists.intro; refine ⟨?_, ?_⟩
          · intro a w' hR h1
            have e1 : _ = _ := h1
            have hl0 := hR.cell c0
            have hl1 := hR.cell c1
            have hl2 := hR.cell c2
            have hl3 := hR.cell c3
            have hl4 := hR.cell c4
            go_simp
            rfl
          repeat (first | ((first | (refine wpM_move00 Ext.refl rfl rfl rfl ?_) | (refine wpM_move01 Ext.refl rfl rfl rfl rfl ?_)); apply Exists.intro; refine ⟨?_, ?_⟩; · (go_simp; rfl)) | (first | (refine wpM_movek0 Ext.refl rfl rfl rfl ?_) | (refine wpM_movek1 Ext.refl rfl rfl rfl rfl ?_)) | ((first | (refine wpM_val0 Ext.refl rfl ?_) | (refine wpM_val1 Ext.refl rfl rfl ?_)); apply Exists.intro; refine ⟨?_, ?_⟩; · (intro a w' hR; intro h1; (first | (have e1 : _ = _ := h1) | skip); intro h2; (first | (have e2 : _ = _ := h2) | skip); go_simp; rfl)) | ((first | (refine wpM_val0 Ext.refl rfl ?_) | (refine wpM_val1 Ext.refl rfl rfl ?_)); apply Exists.intro; refine ⟨?_, ?_⟩; · (intro a w' hR; intro h1; (first | (have e1 : _ = _ := h1) | skip); go_simp; rfl)) | ((first | (refine wpM_val0 Ext.refl rfl ?_) | (refine wpM_val1 Ext.refl rfl rfl ?_)); apply Exists.intro; refine ⟨?_, ?_⟩; · (intro a w' hR; go_simp; rfl)) | ((first | (refine wpM_val0 Ext.refl rfl ?_) | (refine wpM_val1 Ext.refl rfl rfl ?_)); apply Exists.intro; refine ⟨?_, ?_⟩; · (intro a w' hR; intro h1; (first | (have e1 : _ = _ := h1) | skip); intro h2; (first | (have e2 : _ = _ := h2) | skip); intro h3; (first | (have e3 : _ = _ := h3) | skip); go_simp; rfl)) | (refine wpM_skip1 rfl ?_))
          (first | (refine wpM_val0 Ext.refl rfl ?_) | (refine wpM_val1 Ext.refl rfl rfl ?_)); apply Exists.intro; refine ⟨?_, ?_⟩
          · intro a w' hR h1
            have e1 : _ = _ := h1
            have hl0 := hR.cell d0
            have hl1 := hR.cell d1
            have hl2 := hR.cell d2
            have hl3 := hR.cell d3
            have hl4 := hR.cell d4
            go_simp
            rfl
          repeat (first | ((first | (refine wpM_move00 Ext.refl rfl rfl rfl ?_) | (refine wpM_move01 Ext.refl rfl rfl rfl rfl ?_)); apply Exists.intro; refine ⟨?_, ?_⟩; · (go_simp; rfl)) | (first | (refine wpM_movek0 Ext.refl rfl rfl rfl ?_) | (refine wpM_movek1 Ext.refl rfl rfl rfl rfl ?_)) | ((first | (refine wpM_val0 Ext.refl rfl ?_) | (refine wpM_val1 Ext.refl rfl rfl ?_)); apply Exists.intro; refine ⟨?_, ?_⟩; · (intro a w' hR; intro h1; (first | (have e1 : _ = _ := h1) | skip); intro h2; (first | (have e2 : _ = _ := h2) | skip); go_simp; rfl)) | ((first | (refine wpM_val0 Ext.refl rfl ?_) | (refine wpM_val1 Ext.refl rfl rfl ?_)); apply Exists.intro; refine ⟨?_, ?_⟩; · (intro a w' hR; intro h1; (first | (have e1 : _ = _ := h1) | skip); go_simp; rfl)) | ((first | (refine wpM_val0 Ext.refl rfl ?_) | (refine wpM_val1 Ext.refl rfl rfl ?_)); apply Exists.intro; refine ⟨?_, ?_⟩; · (intro a w' hR; go_simp; rfl)) | ((first | (refine wpM_val0 Ext.refl rfl ?_) | (refine wpM_val1 Ext.refl rfl rfl ?_)); apply Exists.intro; refine ⟨?_, ?_⟩; · (intro a w' hR; intro h1; (first | (have e1 : _ = _ := h1) | skip); intro h2; (first | (have e2 : _ = _ := h2) | skip); intro h3; (first | (have e3 : _ = _ := h3) | skip); go_simp; rfl)) | (refine wpM_skip1 rfl ?_))
          refine wpM_done ?_
          intro w5 hx5
          iterate 9 (rintro _ rfl)
          dsimp only [FinV]
          go_simp
          have HX5 := Lib.hid hx5
          clear hx5
          go_wp2
          exact ⟨⟨k + 1, by omega, by go_num, HN.out, HX.out.trans HX5.out⟩, by simp [intOf]; omega⟩
        · have HN := Lib.hid (HSN.out hxy)
          have hd := hbn hxy
          rw [hd] at hExy
          clear hxy HST HSN hbx hbn hd hE
          obtain ⟨⟨⟨x1, x2⟩, x3, x4⟩, x5⟩ := x
          obtain ⟨⟨⟨y1, y2⟩, y3, y4⟩, y5⟩ := y
          dsimp only [sV] at *
          go_wp2
          refine wp_region_ext (by kernel_rfl) (by rfl) (by rfl) (by kernel_rfl) ?_
          repeat (first | ((first | (refine wpM_move00 Ext.refl rfl rfl rfl ?_) | (refine wpM_move01 Ext.refl rfl rfl rfl rfl ?_)); apply Exists.intro; refine ⟨?_, ?_⟩; · (go_simp; rfl)) | (first | (refine wpM_movek0 Ext.refl rfl rfl rfl ?_) | (refine wpM_movek1 Ext.refl rfl rfl rfl rfl ?_)) | ((first | (refine wpM_val0 Ext.refl rfl ?_) | (refine wpM_val1 Ext.refl rfl rfl ?_)); apply Exists.intro; refine ⟨?_, ?_⟩; · (intro a w' hR; intro h1; (first | (have e1 : _ = _ := h1) | skip); intro h2; (first | (have e2 : _ = _ := h2) | skip); go_simp; rfl)) | ((first | (refine wpM_val0 Ext.refl rfl ?_) | (refine wpM_val1 Ext.refl rfl rfl ?_)); apply Exists.intro; refine ⟨?_, ?_⟩; · (intro a w' hR; intro h1; (first | (have e1 : _ = _ := h1) | skip); go_simp; rfl)) | ((first | (refine wpM_val0 Ext.refl rfl ?_) | (refine wpM_val1 Ext.refl rfl rfl ?_)); apply Exists.intro; refine ⟨?_, ?_⟩; · (intro a w' hR; go_simp; rfl)) | ((first | (refine wpM_val0 Ext.refl rfl ?_) | (refine wpM_val1 Ext.refl rfl rfl ?_)); apply Exists.intro; refine ⟨?_, ?_⟩; · (intro a w' hR; intro h1; (first | (have e1 : _ = _ := h1) | skip); intro h2; (first | (have e2 : _ = _ := h2) | skip); intro h3; (first | (have e3 : _ = _ := h3) | skip); go_simp; rfl)) | (refine wpM_skip1 rfl ?_))
          (first | (refine wpM_val0 Ext.refl rfl ?_) | (refine wpM_val1 Ext.refl rfl rfl ?_)); apply Exists.intro; refine ⟨?_, ?_⟩
          · intro a w' hR h1
            have e1 : _ = _ := h1
            have hl0 := hR.cell c0
            have hl1 := hR.cell c1
            have hl2 := hR.cell c2
            have hl3 := hR.cell c3
            have hl4 := hR.cell c4
            go_simp
            rfl
          repeat (first | ((first | (refine wpM_move00 Ext.refl rfl rfl rfl ?_) | (refine wpM_move01 Ext.refl rfl rfl rfl rfl ?_)); apply Exists.intro; refine ⟨?_, ?_⟩; · (go_simp; rfl)) | (first | (refine wpM_movek0 Ext.refl rfl rfl rfl ?_) | (refine wpM_movek1 Ext.refl rfl rfl rfl rfl ?_)) | ((first | (refine wpM_val0 Ext.refl rfl ?_) | (refine wpM_val1 Ext.refl rfl rfl ?_)); apply Exists.intro; refine ⟨?_, ?_⟩; · (intro a w' hR; intro h1; (first | (have e1 : _ = _ := h1) | skip); intro h2; (first | (have e2 : _ = _ := h2) | skip); go_simp; rfl)) | ((first | (refine wpM_val0 Ext.refl rfl ?_) | (refine wpM_val1 Ext.refl rfl rfl ?_)); apply Exists.intro; refine ⟨?_, ?_⟩; · (intro a w' hR; intro h1; (first | (have e1 : _ = _ := h1) | skip); go_simp; rfl)) | ((first | (refine wpM_val0 Ext.refl rfl ?_) | (refine wpM_val1 Ext.refl rfl rfl ?_)); apply Exists.intro; refine ⟨?_, ?_⟩; · (intro a w' hR; go_simp; rfl)) | ((first | (refine wpM_val0 Ext.refl rfl ?_) | (refine wpM_val1 Ext.refl rfl rfl ?_)); apply Exists.intro; refine ⟨?_, ?_⟩; · (intro a w' hR; intro h1; (first | (have e1 : _ = _ := h1) | skip); intro h2; (first | (have e2 : _ = _ := h2) | skip); intro h3; (first | (have e3 : _ = _ := h3) | skip); go_simp; rfl)) | (refine wpM_skip1 rfl ?_))
          (first | (refine wpM_val0 Ext.refl rfl ?_) | (refine wpM_val1 Ext.refl rfl rfl ?_)); apply Exists.intro; refine ⟨?_, ?_⟩
          · intro a w' hR h1
            have e1 : _ = _ := h1
            have hl0 := hR.cell d0
            have hl1 := hR.cell d1
            have hl2 := hR.cell d2
            have hl3 := hR.cell d3
            have hl4 := hR.cell d4
            go_simp
            rfl
          repeat (first | ((first | (refine wpM_move00 Ext.refl rfl rfl rfl ?_) | (refine wpM_move01 Ext.refl rfl rfl rfl rfl ?_)); apply Exists.intro; refine ⟨?_, ?_⟩; · (go_simp; rfl)) | (first | (refine wpM_movek0 Ext.refl rfl rfl rfl ?_) | (refine wpM_movek1 Ext.refl rfl rfl rfl rfl ?_)) | ((first | (refine wpM_val0 Ext.refl rfl ?_) | (refine wpM_val1 Ext.refl rfl rfl ?_)); apply Exists.intro; refine ⟨?_, ?_⟩; · (intro a w' hR; intro h1; (first | (have e1 : _ = _ := h1) | skip); intro h2; (first | (have e2 : _ = _ := h2) | skip); go_simp; rfl)) | ((first | (refine wpM_val0 Ext.refl rfl ?_) | (refine wpM_val1 Ext.refl rfl rfl ?_)); apply Exists.intro; refine ⟨?_, ?_⟩; · (intro a w' hR; intro h1; (first | (have e1 : _ = _ := h1) | skip); go_simp; rfl)) | ((first | (refine wpM_val0 Ext.refl rfl ?_) | (refine wpM_val1 Ext.refl rfl rfl ?_)); apply Exists.intro; refine ⟨?_, ?_⟩; · (intro a w' hR; go_simp; rfl)) | ((first | (refine wpM_val0 Ext.refl rfl ?_) | (refine wpM_val1 Ext.refl rfl rfl ?_)); apply Exists.intro; refine ⟨?_, ?_⟩; · (intro a w' hR; intro h1; (first | (have e1 : _ = _ := h1) | skip); intro h2; (first | (have e2 : _ = _ := h2) | skip); intro h3; (first | (have e3 : _ = _ := h3) | skip); go_simp; rfl)) | (refine wpM_skip1 rfl ?_))
          refine wpM_done ?_
          intro w5 hx5
          iterate 9 (rintro _ rfl)
          dsimp only [FinV]
          go_simp
          have HX5 := Lib.hid hx5
          clear hx5
          go_wp2
          go_ret
          rw [HN.out]
          exact ⟨rfl, HX.out.trans HX5.out⟩
      · obtain rfl : k = l.length := by omega
        have hq : decide (l = r) = true := by
          have h1 := HT.out
          have h2 := HL.out
          rw [List.take_length, h2, List.take_length] at h1
          simpa using h1
        have HQ := Lib.hid hq
        clear hq hext
        go_wp2
        go_ret
        rw [HQ.out]
        exact ⟨rfl, HX.out⟩
  · refine (rsame_len A B _ _ c d w hl).mono ?_
    rintro e w' ⟨rfl, rfl⟩
    have : decide (l = r) = false := by simp; intro h; exact hl (by rw [h])
    rw [this]
    exact ⟨rfl, Ext.refl _⟩
end Go.Proofs.Ytngdlahgihbmhaa
