/-
  The walks of the document's answer on counts.
-/
import Derived.Test.YtngdlahgihbmhaaCnt4
import Derived.Test.YtngdlahgihbmhaaRdr
namespace Go.Proofs.Ytngdlahgihbmhaa
open Go.RowKit Go.Ox Go.Shelf
set_option linter.unusedVariables false
set_option linter.unusedSimpArgs false
attribute [local irreducible] OP RP

/-- the document's counts in memory -/
structure XM (w : World) (g : Nat) (L : List Cnt.S) : Prop where
  row : ∃ v, Blk w g 27 #[v] ∧ RE w v L
  good : Cnt.Good L
theorem XM.ext {w w' : World} {g : Nat} {L : List Cnt.S} (h : XM w g L) (he : Ext w w') : XM w' g L := by
  obtain ⟨v, h1, h2⟩ := h.row
  exact ⟨⟨v, h1.ext he, h2.ext he⟩, h.good⟩
theorem XM.extM {w w' : World} {g c : Nat} {L : List Cnt.S} (h : XM w g L) (he : ExtM c w w') (hc : g ≠ c) : XM w' g L := by
  obtain ⟨v, h1, h2⟩ := h.row
  exact ⟨⟨v, h1.extM he hc, Rd.extM h2 he⟩, h.good⟩
theorem first_is {L : List Cnt.S} (hg : Cnt.Good L) {k : Cnt.K} {i : Nat} (hi : i < L.length) (h : L[i].1 = k) : Cnt.was L k = L[i].2 := by
  refine Cnt.was_mem hg ?_
  rw [← h]
  exact List.getElem_mem hi
theorem none_s {L : List Cnt.S} {k : Cnt.K} {i : Nat} (hi : i < L.length) (h : ∀ x ∈ L.take i, x.1 ≠ k) (hne : L[i].1 ≠ k) : ∀ x ∈ L.take (i + 1), x.1 ≠ k := by
  intro x hx
  rw [List.take_succ_eq_append_getElem hi] at hx
  rcases List.mem_append.1 hx with hx | hx
  · exact h x hx
  · rw [List.mem_singleton.1 hx]; exact hne

set_option maxRecDepth 100000 in
set_option maxHeartbeats 4000000 in
theorem rof_any (w : World) (g : Nat) (L : List Cnt.S) (h : XM w g L) (hl : L.length ≤ 1000000) (k : Cnt.K) :
    Calls Try.prog 13 #[.pointer (some ⟨g, 0, none⟩), pV2 k.1, pV2 k.2] w fun e w' => e = .returned (.int .i64 (Cnt.was L k)) ∧ Ext w w' := by
  obtain ⟨⟨k1, k2⟩, k3, k4⟩ := k
  dsimp only
  have hx : Ext w ((w.alloc (.cells #[.int .i64 k1, .int .i64 k2] 30)).alloc (.cells #[.int .i64 k3, .int .i64 k4] 32)) := ((Ext.refl _).alloc _).alloc _
  have HB := Lib.hid (boxP w (.int .i64 k1) (.int .i64 k2) (.int .i64 k3) (.int .i64 k4))
  obtain ⟨v, hb, hr⟩ := h.row
  have hgd := h.good
  obtain ⟨A, c, rfl⟩ := hr.form
  have HBL := Lib.hid (hb.ext hx)
  have HR := Lib.hid (hr.ext hx)
  have HX := Lib.hid hx
  have hE := eqPl
  have hE2 := eqM
  have hG := guardPl
  have hG2 := guardM
  clear h hb hr hx
  go_enter Try.func13, Try.ntmps13
  go_wp2
  generalize hw0 : ((w.alloc (.cells #[.int .i64 k1, .int .i64 k2] 30)).alloc (.cells #[.int .i64 k3, .int .i64 k4] 32)) = w0 at *
  clear hw0
  go_loopw [7] (fun i wr => ∃ j : Nat, j ≤ L.length ∧ i = .int .i64 j ∧ (∀ x ∈ L.take j, x.1 ≠ ((k1, k2), k3, k4)) ∧ Ext w0 wr) (fun i _ => L.length - (intOf i).toNat)
  case atStart => exact ⟨0, Nat.zero_le _, rfl, by simp, Ext.refl _⟩
  case round =>
    obtain ⟨j, hj, rfl, hno, hext⟩ := hrel
    have HN := Lib.hid hno
    have HE := Lib.hid hext
    have cb : wr.cell? ⟨g, 0, none⟩ = some (.slice A L.length c) := (HBL.out.ext hext).cell 0
    clear hno
    by_cases hlt : j < L.length
    · have g1 : (j : Int) < (L.length : Int) := by omega
      have g0 : 0 ≤ (j : Int) := by omega
      obtain ⟨bA, oA, rfl, c0, c1, c2, c3, c4⟩ := re5 (HR.out.ext hext) hlt
      obtain ⟨p0, p1, m0, m1⟩ := HB.out
      have p0 := hext.cell p0
      have p1 := hext.cell p1
      have m0 := hext.cell m0
      have m1 := hext.cell m1
      have HF := Lib.hid (first_is (k := ((k1, k2), k3, k4)) hgd hlt)
      have HNS := Lib.hid (none_s (k := ((k1, k2), k3, k4)) hlt HN.out)
      generalize L[j] = x at *
      obtain ⟨⟨⟨x1, x2⟩, x3, x4⟩, x5⟩ := x
      dsimp only at *
      clear hext
      generalize w.heap.size = n at *
      by_cases hp : (x1, x2) = (k1, k2)
      · by_cases hm : (x3, x4) = (k3, k4)
        · have d1 := pairB_t hp
          have d2 := pairB_t hm
          have HW := Lib.hid (HF.out (by rw [hp, hm]))
          clear hp hm HF HNS
          go_wp2
          refine wp_region_ext (by kernel_rfl) (by rfl) (by rfl) (by kernel_rfl) ?_
          repeat (first | ((first | (refine wpM_move00 Ext.refl rfl rfl rfl ?_) | (refine wpM_move01 Ext.refl rfl rfl rfl rfl ?_)); apply Exists.intro; refine ⟨?_, ?_⟩; · (go_simp; rfl)) | (first | (refine wpM_movek0 Ext.refl rfl rfl rfl ?_) | (refine wpM_movek1 Ext.refl rfl rfl rfl rfl ?_)) | ((first | (refine wpM_val0 Ext.refl rfl ?_) | (refine wpM_val1 Ext.refl rfl rfl ?_)); apply Exists.intro; refine ⟨?_, ?_⟩; · (intro a w' hR; intro h1; (first | (have e1 : _ = _ := h1) | skip); intro h2; (first | (have e2 : _ = _ := h2) | skip); go_simp; rfl)) | ((first | (refine wpM_val0 Ext.refl rfl ?_) | (refine wpM_val1 Ext.refl rfl rfl ?_)); apply Exists.intro; refine ⟨?_, ?_⟩; · (intro a w' hR; intro h1; (first | (have e1 : _ = _ := h1) | skip); go_simp; rfl)) | ((first | (refine wpM_val0 Ext.refl rfl ?_) | (refine wpM_val1 Ext.refl rfl rfl ?_)); apply Exists.intro; refine ⟨?_, ?_⟩; · (intro a w' hR; go_simp; rfl)) | ((first | (refine wpM_val0 Ext.refl rfl ?_) | (refine wpM_val1 Ext.refl rfl rfl ?_)); apply Exists.intro; refine ⟨?_, ?_⟩; · (intro a w' hR; intro h1; (first | (have e1 : _ = _ := h1) | skip); intro h2; (first | (have e2 : _ = _ := h2) | skip); intro h3; (first | (have e3 : _ = _ := h3) | skip); go_simp; rfl)) | (refine wpM_skip1 rfl ?_))
          (first | (refine wpM_val0 Ext.refl rfl ?_) | (refine wpM_val1 Ext.refl rfl rfl ?_)); apply Exists.intro; refine ⟨?_, ?_⟩
          · intro a w' hR h1
            have e1 : _ = _ := h1
            have hl0 := hR.cell cb
            go_simp
            rfl
          repeat (first | ((first | (refine wpM_move00 Ext.refl rfl rfl rfl ?_) | (refine wpM_move01 Ext.refl rfl rfl rfl rfl ?_)); apply Exists.intro; refine ⟨?_, ?_⟩; · (go_simp; rfl)) | (first | (refine wpM_movek0 Ext.refl rfl rfl rfl ?_) | (refine wpM_movek1 Ext.refl rfl rfl rfl rfl ?_)) | ((first | (refine wpM_val0 Ext.refl rfl ?_) | (refine wpM_val1 Ext.refl rfl rfl ?_)); apply Exists.intro; refine ⟨?_, ?_⟩; · (intro a w' hR; intro h1; (first | (have e1 : _ = _ := h1) | skip); intro h2; (first | (have e2 : _ = _ := h2) | skip); go_simp; rfl)) | ((first | (refine wpM_val0 Ext.refl rfl ?_) | (refine wpM_val1 Ext.refl rfl rfl ?_)); apply Exists.intro; refine ⟨?_, ?_⟩; · (intro a w' hR; intro h1; (first | (have e1 : _ = _ := h1) | skip); go_simp; rfl)) | ((first | (refine wpM_val0 Ext.refl rfl ?_) | (refine wpM_val1 Ext.refl rfl rfl ?_)); apply Exists.intro; refine ⟨?_, ?_⟩; · (intro a w' hR; go_simp; rfl)) | ((first | (refine wpM_val0 Ext.refl rfl ?_) | (refine wpM_val1 Ext.refl rfl rfl ?_)); apply Exists.intro; refine ⟨?_, ?_⟩; · (intro a w' hR; intro h1; (first | (have e1 : _ = _ := h1) | skip); intro h2; (first | (have e2 : _ = _ := h2) | skip); intro h3; (first | (have e3 : _ = _ := h3) | skip); go_simp; rfl)) | (refine wpM_skip1 rfl ?_))
          (first | (refine wpM_val0 Ext.refl rfl ?_) | (refine wpM_val1 Ext.refl rfl rfl ?_)); apply Exists.intro; refine ⟨?_, ?_⟩
          · intro a w' hR h1
            have e1 : _ = _ := h1
            have hl0 := hR.cell c0
            have hl1 := hR.cell c1
            go_simp
            rfl
          (first | (refine wpM_val0 Ext.refl rfl ?_) | (refine wpM_val1 Ext.refl rfl rfl ?_)); apply Exists.intro; refine ⟨?_, ?_⟩
          · intro a w' hR h1
            have e1 : _ = _ := h1
            have hl0 := hR.cell p0
            have hl1 := hR.cell p1
            go_simp
            rfl
          repeat (first | ((first | (refine wpM_move00 Ext.refl rfl rfl rfl ?_) | (refine wpM_move01 Ext.refl rfl rfl rfl rfl ?_)); apply Exists.intro; refine ⟨?_, ?_⟩; · (go_simp; rfl)) | (first | (refine wpM_movek0 Ext.refl rfl rfl rfl ?_) | (refine wpM_movek1 Ext.refl rfl rfl rfl rfl ?_)) | ((first | (refine wpM_val0 Ext.refl rfl ?_) | (refine wpM_val1 Ext.refl rfl rfl ?_)); apply Exists.intro; refine ⟨?_, ?_⟩; · (intro a w' hR; intro h1; (first | (have e1 : _ = _ := h1) | skip); intro h2; (first | (have e2 : _ = _ := h2) | skip); go_simp; rfl)) | ((first | (refine wpM_val0 Ext.refl rfl ?_) | (refine wpM_val1 Ext.refl rfl rfl ?_)); apply Exists.intro; refine ⟨?_, ?_⟩; · (intro a w' hR; intro h1; (first | (have e1 : _ = _ := h1) | skip); go_simp; rfl)) | ((first | (refine wpM_val0 Ext.refl rfl ?_) | (refine wpM_val1 Ext.refl rfl rfl ?_)); apply Exists.intro; refine ⟨?_, ?_⟩; · (intro a w' hR; go_simp; rfl)) | ((first | (refine wpM_val0 Ext.refl rfl ?_) | (refine wpM_val1 Ext.refl rfl rfl ?_)); apply Exists.intro; refine ⟨?_, ?_⟩; · (intro a w' hR; intro h1; (first | (have e1 : _ = _ := h1) | skip); intro h2; (first | (have e2 : _ = _ := h2) | skip); intro h3; (first | (have e3 : _ = _ := h3) | skip); go_simp; rfl)) | (refine wpM_skip1 rfl ?_))
          (first | (refine wpM_val0 Ext.refl rfl ?_) | (refine wpM_val1 Ext.refl rfl rfl ?_)); apply Exists.intro; refine ⟨?_, ?_⟩
          · intro a w' hR h1
            have e1 : _ = _ := h1
            have hl0 := hR.cell cb
            go_simp
            rfl
          repeat (first | ((first | (refine wpM_move00 Ext.refl rfl rfl rfl ?_) | (refine wpM_move01 Ext.refl rfl rfl rfl rfl ?_)); apply Exists.intro; refine ⟨?_, ?_⟩; · (go_simp; rfl)) | (first | (refine wpM_movek0 Ext.refl rfl rfl rfl ?_) | (refine wpM_movek1 Ext.refl rfl rfl rfl rfl ?_)) | ((first | (refine wpM_val0 Ext.refl rfl ?_) | (refine wpM_val1 Ext.refl rfl rfl ?_)); apply Exists.intro; refine ⟨?_, ?_⟩; · (intro a w' hR; intro h1; (first | (have e1 : _ = _ := h1) | skip); intro h2; (first | (have e2 : _ = _ := h2) | skip); go_simp; rfl)) | ((first | (refine wpM_val0 Ext.refl rfl ?_) | (refine wpM_val1 Ext.refl rfl rfl ?_)); apply Exists.intro; refine ⟨?_, ?_⟩; · (intro a w' hR; intro h1; (first | (have e1 : _ = _ := h1) | skip); go_simp; rfl)) | ((first | (refine wpM_val0 Ext.refl rfl ?_) | (refine wpM_val1 Ext.refl rfl rfl ?_)); apply Exists.intro; refine ⟨?_, ?_⟩; · (intro a w' hR; go_simp; rfl)) | ((first | (refine wpM_val0 Ext.refl rfl ?_) | (refine wpM_val1 Ext.refl rfl rfl ?_)); apply Exists.intro; refine ⟨?_, ?_⟩; · (intro a w' hR; intro h1; (first | (have e1 : _ = _ := h1) | skip); intro h2; (first | (have e2 : _ = _ := h2) | skip); intro h3; (first | (have e3 : _ = _ := h3) | skip); go_simp; rfl)) | (refine wpM_skip1 rfl ?_))
          (first | (refine wpM_val0 Ext.refl rfl ?_) | (refine wpM_val1 Ext.refl rfl rfl ?_)); apply Exists.intro; refine ⟨?_, ?_⟩
          · intro a w' hR h1
            have e1 : _ = _ := h1
            have hl0 := hR.cell c2
            have hl1 := hR.cell c3
            go_simp
            rfl
          (first | (refine wpM_val0 Ext.refl rfl ?_) | (refine wpM_val1 Ext.refl rfl rfl ?_)); apply Exists.intro; refine ⟨?_, ?_⟩
          · intro a w' hR h1
            have e1 : _ = _ := h1
            have hl0 := hR.cell m0
            have hl1 := hR.cell m1
            go_simp
            rfl
          repeat (first | ((first | (refine wpM_move00 Ext.refl rfl rfl rfl ?_) | (refine wpM_move01 Ext.refl rfl rfl rfl rfl ?_)); apply Exists.intro; refine ⟨?_, ?_⟩; · (go_simp; rfl)) | (first | (refine wpM_movek0 Ext.refl rfl rfl rfl ?_) | (refine wpM_movek1 Ext.refl rfl rfl rfl rfl ?_)) | ((first | (refine wpM_val0 Ext.refl rfl ?_) | (refine wpM_val1 Ext.refl rfl rfl ?_)); apply Exists.intro; refine ⟨?_, ?_⟩; · (intro a w' hR; intro h1; (first | (have e1 : _ = _ := h1) | skip); intro h2; (first | (have e2 : _ = _ := h2) | skip); go_simp; rfl)) | ((first | (refine wpM_val0 Ext.refl rfl ?_) | (refine wpM_val1 Ext.refl rfl rfl ?_)); apply Exists.intro; refine ⟨?_, ?_⟩; · (intro a w' hR; intro h1; (first | (have e1 : _ = _ := h1) | skip); go_simp; rfl)) | ((first | (refine wpM_val0 Ext.refl rfl ?_) | (refine wpM_val1 Ext.refl rfl rfl ?_)); apply Exists.intro; refine ⟨?_, ?_⟩; · (intro a w' hR; go_simp; rfl)) | ((first | (refine wpM_val0 Ext.refl rfl ?_) | (refine wpM_val1 Ext.refl rfl rfl ?_)); apply Exists.intro; refine ⟨?_, ?_⟩; · (intro a w' hR; intro h1; (first | (have e1 : _ = _ := h1) | skip); intro h2; (first | (have e2 : _ = _ := h2) | skip); intro h3; (first | (have e3 : _ = _ := h3) | skip); go_simp; rfl)) | (refine wpM_skip1 rfl ?_))
          refine wpM_done ?_
          intro w5 hx5
          iterate 22 (rintro _ rfl)
          dsimp only [FinV]
          go_simp
          have cb := hx5.cell cb
          have c4 := hx5.cell c4
          have HX5 := Lib.hid (HE.out.trans hx5)
          clear hx5
          go_wp2
          go_ret
          rw [HW.out]
          exact ⟨rfl, HX.out.trans HX5.out⟩
        · have d1 := pairB_t hp
          have d2 := pairB_f hm
          have HW := Lib.hid (HNS.out (by intro q; injection q with _ q; exact hm q))
          clear hp hm HF HNS
          go_wp2
          refine wp_region_ext (by kernel_rfl) (by rfl) (by rfl) (by kernel_rfl) ?_
          repeat (first | ((first | (refine wpM_move00 Ext.refl rfl rfl rfl ?_) | (refine wpM_move01 Ext.refl rfl rfl rfl rfl ?_)); apply Exists.intro; refine ⟨?_, ?_⟩; · (go_simp; rfl)) | (first | (refine wpM_movek0 Ext.refl rfl rfl rfl ?_) | (refine wpM_movek1 Ext.refl rfl rfl rfl rfl ?_)) | ((first | (refine wpM_val0 Ext.refl rfl ?_) | (refine wpM_val1 Ext.refl rfl rfl ?_)); apply Exists.intro; refine ⟨?_, ?_⟩; · (intro a w' hR; intro h1; (first | (have e1 : _ = _ := h1) | skip); intro h2; (first | (have e2 : _ = _ := h2) | skip); go_simp; rfl)) | ((first | (refine wpM_val0 Ext.refl rfl ?_) | (refine wpM_val1 Ext.refl rfl rfl ?_)); apply Exists.intro; refine ⟨?_, ?_⟩; · (intro a w' hR; intro h1; (first | (have e1 : _ = _ := h1) | skip); go_simp; rfl)) | ((first | (refine wpM_val0 Ext.refl rfl ?_) | (refine wpM_val1 Ext.refl rfl rfl ?_)); apply Exists.intro; refine ⟨?_, ?_⟩; · (intro a w' hR; go_simp; rfl)) | ((first | (refine wpM_val0 Ext.refl rfl ?_) | (refine wpM_val1 Ext.refl rfl rfl ?_)); apply Exists.intro; refine ⟨?_, ?_⟩; · (intro a w' hR; intro h1; (first | (have e1 : _ = _ := h1) | skip); intro h2; (first | (have e2 : _ = _ := h2) | skip); intro h3; (first | (have e3 : _ = _ := h3) | skip); go_simp; rfl)) | (refine wpM_skip1 rfl ?_))
          (first | (refine wpM_val0 Ext.refl rfl ?_) | (refine wpM_val1 Ext.refl rfl rfl ?_)); apply Exists.intro; refine ⟨?_, ?_⟩
          · intro a w' hR h1
            have e1 : _ = _ := h1
            have hl0 := hR.cell cb
            go_simp
            rfl
          repeat (first | ((first | (refine wpM_move00 Ext.refl rfl rfl rfl ?_) | (refine wpM_move01 Ext.refl rfl rfl rfl rfl ?_)); apply Exists.intro; refine ⟨?_, ?_⟩; · (go_simp; rfl)) | (first | (refine wpM_movek0 Ext.refl rfl rfl rfl ?_) | (refine wpM_movek1 Ext.refl rfl rfl rfl rfl ?_)) | ((first | (refine wpM_val0 Ext.refl rfl ?_) | (refine wpM_val1 Ext.refl rfl rfl ?_)); apply Exists.intro; refine ⟨?_, ?_⟩; · (intro a w' hR; intro h1; (first | (have e1 : _ = _ := h1) | skip); intro h2; (first | (have e2 : _ = _ := h2) | skip); go_simp; rfl)) | ((first | (refine wpM_val0 Ext.refl rfl ?_) | (refine wpM_val1 Ext.refl rfl rfl ?_)); apply Exists.intro; refine ⟨?_, ?_⟩; · (intro a w' hR; intro h1; (first | (have e1 : _ = _ := h1) | skip); go_simp; rfl)) | ((first | (refine wpM_val0 Ext.refl rfl ?_) | (refine wpM_val1 Ext.refl rfl rfl ?_)); apply Exists.intro; refine ⟨?_, ?_⟩; · (intro a w' hR; go_simp; rfl)) | ((first | (refine wpM_val0 Ext.refl rfl ?_) | (refine wpM_val1 Ext.refl rfl rfl ?_)); apply Exists.intro; refine ⟨?_, ?_⟩; · (intro a w' hR; intro h1; (first | (have e1 : _ = _ := h1) | skip); intro h2; (first | (have e2 : _ = _ := h2) | skip); intro h3; (first | (have e3 : _ = _ := h3) | skip); go_simp; rfl)) | (refine wpM_skip1 rfl ?_))
          (first | (refine wpM_val0 Ext.refl rfl ?_) | (refine wpM_val1 Ext.refl rfl rfl ?_)); apply Exists.intro; refine ⟨?_, ?_⟩
          · intro a w' hR h1
            have e1 : _ = _ := h1
            have hl0 := hR.cell c0
            have hl1 := hR.cell c1
            go_simp
            rfl
          (first | (refine wpM_val0 Ext.refl rfl ?_) | (refine wpM_val1 Ext.refl rfl rfl ?_)); apply Exists.intro; refine ⟨?_, ?_⟩
          · intro a w' hR h1
            have e1 : _ = _ := h1
            have hl0 := hR.cell p0
            have hl1 := hR.cell p1
            go_simp
            rfl
          repeat (first | ((first | (refine wpM_move00 Ext.refl rfl rfl rfl ?_) | (refine wpM_move01 Ext.refl rfl rfl rfl rfl ?_)); apply Exists.intro; refine ⟨?_, ?_⟩; · (go_simp; rfl)) | (first | (refine wpM_movek0 Ext.refl rfl rfl rfl ?_) | (refine wpM_movek1 Ext.refl rfl rfl rfl rfl ?_)) | ((first | (refine wpM_val0 Ext.refl rfl ?_) | (refine wpM_val1 Ext.refl rfl rfl ?_)); apply Exists.intro; refine ⟨?_, ?_⟩; · (intro a w' hR; intro h1; (first | (have e1 : _ = _ := h1) | skip); intro h2; (first | (have e2 : _ = _ := h2) | skip); go_simp; rfl)) | ((first | (refine wpM_val0 Ext.refl rfl ?_) | (refine wpM_val1 Ext.refl rfl rfl ?_)); apply Exists.intro; refine ⟨?_, ?_⟩; · (intro a w' hR; intro h1; (first | (have e1 : _ = _ := h1) | skip); go_simp; rfl)) | ((first | (refine wpM_val0 Ext.refl rfl ?_) | (refine wpM_val1 Ext.refl rfl rfl ?_)); apply Exists.intro; refine ⟨?_, ?_⟩; · (intro a w' hR; go_simp; rfl)) | ((first | (refine wpM_val0 Ext.refl rfl ?_) | (refine wpM_val1 Ext.refl rfl rfl ?_)); apply Exists.intro; refine ⟨?_, ?_⟩; · (intro a w' hR; intro h1; (first | (have e1 : _ = _ := h1) | skip); intro h2; (first | (have e2 : _ = _ := h2) | skip); intro h3; (first | (have e3 : _ = _ := h3) | skip); go_simp; rfl)) | (refine wpM_skip1 rfl ?_))
          (first | (refine wpM_val0 Ext.refl rfl ?_) | (refine wpM_val1 Ext.refl rfl rfl ?_)); apply Exists.intro; refine ⟨?_, ?_⟩
          · intro a w' hR h1
            have e1 : _ = _ := h1
            have hl0 := hR.cell cb
            go_simp
            rfl
          repeat (first | ((first | (refine wpM_move00 Ext.refl rfl rfl rfl ?_) | (refine wpM_move01 Ext.refl rfl rfl rfl rfl ?_)); apply Exists.intro; refine ⟨?_, ?_⟩; · (go_simp; rfl)) | (first | (refine wpM_movek0 Ext.refl rfl rfl rfl ?_) | (refine wpM_movek1 Ext.refl rfl rfl rfl rfl ?_)) | ((first | (refine wpM_val0 Ext.refl rfl ?_) | (refine wpM_val1 Ext.refl rfl rfl ?_)); apply Exists.intro; refine ⟨?_, ?_⟩; · (intro a w' hR; intro h1; (first | (have e1 : _ = _ := h1) | skip); intro h2; (first | (have e2 : _ = _ := h2) | skip); go_simp; rfl)) | ((first | (refine wpM_val0 Ext.refl rfl ?_) | (refine wpM_val1 Ext.refl rfl rfl ?_)); apply Exists.intro; refine ⟨?_, ?_⟩; · (intro a w' hR; intro h1; (first | (have e1 : _ = _ := h1) | skip); go_simp; rfl)) | ((first | (refine wpM_val0 Ext.refl rfl ?_) | (refine wpM_val1 Ext.refl rfl rfl ?_)); apply Exists.intro; refine ⟨?_, ?_⟩; · (intro a w' hR; go_simp; rfl)) | ((first | (refine wpM_val0 Ext.refl rfl ?_) | (refine wpM_val1 Ext.refl rfl rfl ?_)); apply Exists.intro; refine ⟨?_, ?_⟩; · (intro a w' hR; intro h1; (first | (have e1 : _ = _ := h1) | skip); intro h2; (first | (have e2 : _ = _ := h2) | skip); intro h3; (first | (have e3 : _ = _ := h3) | skip); go_simp; rfl)) | (refine wpM_skip1 rfl ?_))
          (first | (refine wpM_val0 Ext.refl rfl ?_) | (refine wpM_val1 Ext.refl rfl rfl ?_)); apply Exists.intro; refine ⟨?_, ?_⟩
          · intro a w' hR h1
            have e1 : _ = _ := h1
            have hl0 := hR.cell c2
            have hl1 := hR.cell c3
            go_simp
            rfl
          (first | (refine wpM_val0 Ext.refl rfl ?_) | (refine wpM_val1 Ext.refl rfl rfl ?_)); apply Exists.intro; refine ⟨?_, ?_⟩
          · intro a w' hR h1
            have e1 : _ = _ := h1
            have hl0 := hR.cell m0
            have hl1 := hR.cell m1
            go_simp
            rfl
          repeat (first | ((first | (refine wpM_move00 Ext.refl rfl rfl rfl ?_) | (refine wpM_move01 Ext.refl rfl rfl rfl rfl ?_)); apply Exists.intro; refine ⟨?_, ?_⟩; · (go_simp; rfl)) | (first | (refine wpM_movek0 Ext.refl rfl rfl rfl ?_) | (refine wpM_movek1 Ext.refl rfl rfl rfl rfl ?_)) | ((first | (refine wpM_val0 Ext.refl rfl ?_) | (refine wpM_val1 Ext.refl rfl rfl ?_)); apply Exists.intro; refine ⟨?_, ?_⟩; · (intro a w' hR; intro h1; (first | (have e1 : _ = _ := h1) | skip); intro h2; (first | (have e2 : _ = _ := h2) | skip); go_simp; rfl)) | ((first | (refine wpM_val0 Ext.refl rfl ?_) | (refine wpM_val1 Ext.refl rfl rfl ?_)); apply Exists.intro; refine ⟨?_, ?_⟩; · (intro a w' hR; intro h1; (first | (have e1 : _ = _ := h1) | skip); go_simp; rfl)) | ((first | (refine wpM_val0 Ext.refl rfl ?_) | (refine wpM_val1 Ext.refl rfl rfl ?_)); apply Exists.intro; refine ⟨?_, ?_⟩; · (intro a w' hR; go_simp; rfl)) | ((first | (refine wpM_val0 Ext.refl rfl ?_) | (refine wpM_val1 Ext.refl rfl rfl ?_)); apply Exists.intro; refine ⟨?_, ?_⟩; · (intro a w' hR; intro h1; (first | (have e1 : _ = _ := h1) | skip); intro h2; (first | (have e2 : _ = _ := h2) | skip); intro h3; (first | (have e3 : _ = _ := h3) | skip); go_simp; rfl)) | (refine wpM_skip1 rfl ?_))
          refine wpM_done ?_
          intro w5 hx5
          iterate 22 (rintro _ rfl)
          dsimp only [FinV]
          go_simp
          have HX5 := Lib.hid (HE.out.trans hx5)
          clear hx5
          go_wp2
          exact ⟨⟨j + 1, by omega, by go_num, HW.out, HX5.out⟩, by simp [intOf]; omega⟩
      · have d1 := pairB_f hp
        have HW := Lib.hid (HNS.out (by intro q; injection q with q _; exact hp q))
        clear hp HF HNS
        go_wp2
        refine wp_region_ext (by kernel_rfl) (by rfl) (by rfl) (by kernel_rfl) ?_
        repeat (first | ((first | (refine wpM_move00 Ext.refl rfl rfl rfl ?_) | (refine wpM_move01 Ext.refl rfl rfl rfl rfl ?_)); apply Exists.intro; refine ⟨?_, ?_⟩; · (go_simp; rfl)) | (first | (refine wpM_movek0 Ext.refl rfl rfl rfl ?_) | (refine wpM_movek1 Ext.refl rfl rfl rfl rfl ?_)) | ((first | (refine wpM_val0 Ext.refl rfl ?_) | (refine wpM_val1 Ext.refl rfl rfl ?_)); apply Exists.intro; refine ⟨?_, ?_⟩; · (intro a w' hR; intro h1; (first | (have e1 : _ = _ := h1) | skip); intro h2; (first | (have e2 : _ = _ := h2) | skip); go_simp; rfl)) | ((first | (refine wpM_val0 Ext.refl rfl ?_) | (refine wpM_val1 Ext.refl rfl rfl ?_)); apply Exists.intro; refine ⟨?_, ?_⟩; · (intro a w' hR; intro h1; (first | (have e1 : _ = _ := h1) | skip); go_simp; rfl)) | ((first | (refine wpM_val0 Ext.refl rfl ?_) | (refine wpM_val1 Ext.refl rfl rfl ?_)); apply Exists.intro; refine ⟨?_, ?_⟩; · (intro a w' hR; go_simp; rfl)) | ((first | (refine wpM_val0 Ext.refl rfl ?_) | (refine wpM_val1 Ext.refl rfl rfl ?_)); apply Exists.intro; refine ⟨?_, ?_⟩; · (intro a w' hR; intro h1; (first | (have e1 : _ = _ := h1) | skip); intro h2; (first | (have e2 : _ = _ := h2) | skip); intro h3; (first | (have e3 : _ = _ := h3) | skip); go_simp; rfl)) | (refine wpM_skip1 rfl ?_))
        (first | (refine wpM_val0 Ext.refl rfl ?_) | (refine wpM_val1 Ext.refl rfl rfl ?_)); apply Exists.intro; refine ⟨?_, ?_⟩
        · intro a w' hR h1
          have e1 : _ = _ := h1
          have hl0 := hR.cell cb
          go_simp
          rfl
        repeat (first | ((first | (refine wpM_move00 Ext.refl rfl rfl rfl ?_) | (refine wpM_move01 Ext.refl rfl rfl rfl rfl ?_)); apply Exists.intro; refine ⟨?_, ?_⟩; · (go_simp; rfl)) | (first | (refine wpM_movek0 Ext.refl rfl rfl rfl ?_) | (refine wpM_movek1 Ext.refl rfl rfl rfl rfl ?_)) | ((first | (refine wpM_val0 Ext.refl rfl ?_) | (refine wpM_val1 Ext.refl rfl rfl ?_)); apply Exists.intro; refine ⟨?_, ?_⟩; · (intro a w' hR; intro h1; (first | (have e1 : _ = _ := h1) | skip); intro h2; (first | (have e2 : _ = _ := h2) | skip); go_simp; rfl)) | ((first | (refine wpM_val0 Ext.refl rfl ?_) | (refine wpM_val1 Ext.refl rfl rfl ?_)); apply Exists.intro; refine ⟨?_, ?_⟩; · (intro a w' hR; intro h1; (first | (have e1 : _ = _ := h1) | skip); go_simp; rfl)) | ((first | (refine wpM_val0 Ext.refl rfl ?_) | (refine wpM_val1 Ext.refl rfl rfl ?_)); apply Exists.intro; refine ⟨?_, ?_⟩; · (intro a w' hR; go_simp; rfl)) | ((first | (refine wpM_val0 Ext.refl rfl ?_) | (refine wpM_val1 Ext.refl rfl rfl ?_)); apply Exists.intro; refine ⟨?_, ?_⟩; · (intro a w' hR; intro h1; (first | (have e1 : _ = _ := h1) | skip); intro h2; (first | (have e2 : _ = _ := h2) | skip); intro h3; (first | (have e3 : _ = _ := h3) | skip); go_simp; rfl)) | (refine wpM_skip1 rfl ?_))
        (first | (refine wpM_val0 Ext.refl rfl ?_) | (refine wpM_val1 Ext.refl rfl rfl ?_)); apply Exists.intro; refine ⟨?_, ?_⟩
        · intro a w' hR h1
          have e1 : _ = _ := h1
          have hl0 := hR.cell c0
          have hl1 := hR.cell c1
          go_simp
          rfl
        (first | (refine wpM_val0 Ext.refl rfl ?_) | (refine wpM_val1 Ext.refl rfl rfl ?_)); apply Exists.intro; refine ⟨?_, ?_⟩
        · intro a w' hR h1
          have e1 : _ = _ := h1
          have hl0 := hR.cell p0
          have hl1 := hR.cell p1
          go_simp
          rfl
        repeat (first | ((first | (refine wpM_move00 Ext.refl rfl rfl rfl ?_) | (refine wpM_move01 Ext.refl rfl rfl rfl rfl ?_)); apply Exists.intro; refine ⟨?_, ?_⟩; · (go_simp; rfl)) | (first | (refine wpM_movek0 Ext.refl rfl rfl rfl ?_) | (refine wpM_movek1 Ext.refl rfl rfl rfl rfl ?_)) | ((first | (refine wpM_val0 Ext.refl rfl ?_) | (refine wpM_val1 Ext.refl rfl rfl ?_)); apply Exists.intro; refine ⟨?_, ?_⟩; · (intro a w' hR; intro h1; (first | (have e1 : _ = _ := h1) | skip); intro h2; (first | (have e2 : _ = _ := h2) | skip); go_simp; rfl)) | ((first | (refine wpM_val0 Ext.refl rfl ?_) | (refine wpM_val1 Ext.refl rfl rfl ?_)); apply Exists.intro; refine ⟨?_, ?_⟩; · (intro a w' hR; intro h1; (first | (have e1 : _ = _ := h1) | skip); go_simp; rfl)) | ((first | (refine wpM_val0 Ext.refl rfl ?_) | (refine wpM_val1 Ext.refl rfl rfl ?_)); apply Exists.intro; refine ⟨?_, ?_⟩; · (intro a w' hR; go_simp; rfl)) | ((first | (refine wpM_val0 Ext.refl rfl ?_) | (refine wpM_val1 Ext.refl rfl rfl ?_)); apply Exists.intro; refine ⟨?_, ?_⟩; · (intro a w' hR; intro h1; (first | (have e1 : _ = _ := h1) | skip); intro h2; (first | (have e2 : _ = _ := h2) | skip); intro h3; (first | (have e3 : _ = _ := h3) | skip); go_simp; rfl)) | (refine wpM_skip1 rfl ?_))
        refine wpM_done ?_
        intro w5 hx5
        iterate 22 (rintro _ rfl)
        dsimp only [FinV]
        go_simp
        have HX5 := Lib.hid (HE.out.trans hx5)
        clear hx5
        go_wp2
        exact ⟨⟨j + 1, by omega, by go_num, HW.out, HX5.out⟩, by simp [intOf]; omega⟩
    · obtain rfl : j = L.length := by omega
      have g1 : ¬ (L.length : Int) < (L.length : Int) := by omega
      have HW := Lib.hid (Cnt.was_not (L := L) (k := ((k1, k2), k3, k4)) (by have := HN.out; rwa [List.take_length] at this))
      clear hext
      go_wp2
      go_ret
      rw [HW.out]
      exact ⟨rfl, HX.out.trans HE.out⟩
end Go.Proofs.Ytngdlahgihbmhaa
