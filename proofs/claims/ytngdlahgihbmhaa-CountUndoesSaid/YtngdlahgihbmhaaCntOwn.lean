/-
  The statements of layer 21: CountOwn.
-/
import Derived.Test.YtngdlahgihbmhaaCntLives
namespace Go.Proofs.Ytngdlahgihbmhaa
open Go.RowKit Go.Ox Go.Shelf
set_option linter.unusedVariables false
set_option linter.unusedSimpArgs false
attribute [local irreducible] OP RP

/-- additions, one behind the other -/
def adds (L : List Cnt.S) (l : List Cnt.S) : List Cnt.S := l.foldl (fun L x => (Cnt.add L x.1 x.2).1) L
theorem adds_s (L l : List Cnt.S) (k : Nat) (h : k < l.length) : adds L (l.take (k + 1)) = (Cnt.add (adds L (l.take k)) l[k].1 l[k].2).1 := by
  unfold adds
  rw [List.take_succ_eq_append_getElem h, List.foldl_append]; rfl
theorem adds_len : ∀ (l L : List Cnt.S), (adds L l).length ≤ L.length + l.length
  | [], L => by simp [adds]
  | x :: l, L => by
    have h1 := adds_len l (Cnt.add L x.1 x.2).1
    have h2 := Cnt.add_len L x.1 x.2
    unfold adds at *
    rw [List.foldl_cons, List.length_cons]; omega

set_option maxRecDepth 100000 in
set_option maxHeartbeats 2000000 in
theorem own_long (v : Value) (l : List Cnt.S) (x : Cnt.S) (w : World) (hv : RE w v l) (hl : 60 < l.length) :
    Calls Try.prog 7 #[v, sV x] w fun e w' => e = .returned (.bool true) ∧ Ext w w' := by
  obtain ⟨A, c, rfl⟩ := hv.form
  obtain ⟨⟨⟨x1, x2⟩, x3, x4⟩, x5⟩ := x
  have g : (60 : Int) < (l.length : Int) := by omega
  have HX0 := Lib.hid ((Ext.refl w).alloc (.cells #[.int .i64 x1, .int .i64 x2, .int .i64 x3, .int .i64 x4, .int .i64 x5] 34))
  clear hv hl
  dsimp only [sV]
  go_enter Try.func7, Try.ntmps7
  go_wp2_with fail
  refine (new_any _).mono ?_
  rintro e w1 ⟨g, b, rfl, hg1, hb1, hc, hx1⟩
  have HX1 := Lib.hid (HX0.out.trans hx1)
  clear hg1 hb1 hc hx1
  go_wp2_with fail
  refine (lives_any _).mono ?_
  rintro e w2 ⟨rfl, hx2⟩
  have HX2 := Lib.hid (HX1.out.trans hx2)
  clear hx2
  go_wp2_with fail
  refine (lives_any _).mono ?_
  rintro e w3 ⟨rfl, hx3⟩
  go_wp2
  go_ret
  exact ⟨rfl, HX2.out.trans hx3⟩

set_option maxRecDepth 100000 in
set_option maxHeartbeats 4000000 in
theorem own_short (v : Value) (l : List Cnt.S) (x : Cnt.S) (w : World) (hv : RE w v l) (hl : l.length ≤ 60) :
    Calls Try.prog 7 #[v, sV x] w fun e w' => e = .returned (.bool true) ∧ Ext w w' := by
  obtain ⟨A, c, rfl⟩ := hv.form
  obtain ⟨⟨⟨x1, x2⟩, x3, x4⟩, x5⟩ := x
  have g : ¬ (60 : Int) < (l.length : Int) := by omega
  have HX0 := Lib.hid ((Ext.refl w).alloc (.cells #[.int .i64 x1, .int .i64 x2, .int .i64 x3, .int .i64 x4, .int .i64 x5] 34))
  have HB0 := Lib.hid (Blk.new w 34 #[.int .i64 x1, .int .i64 x2, .int .i64 x3, .int .i64 x4, .int .i64 x5])
  have HV := Lib.hid hv
  clear hv
  dsimp only [sV]
  go_enter Try.func7, Try.ntmps7
  go_wp2_with fail
  refine (new_any _).mono ?_
  rintro e w1 ⟨g, b, rfl, hg1, hb1, hc, hx1⟩
  have HX1 := Lib.hid (HX0.out.trans hx1)
  have HB1 := Lib.hid (HB0.out.ext hx1)
  have HC1 := Lib.hid hc
  have HBB := Lib.hid (show w.heap.size < b from Nat.lt_of_lt_of_le (by have := HB0.out.lt; exact this) hb1)
  clear hg1 hb1 hc hx1
  go_wp2_with fail
  refine (lives_any _).mono ?_
  rintro e w2 ⟨rfl, hx2⟩
  have HX2 := Lib.hid (HX1.out.trans hx2)
  have HB2 := Lib.hid (HB1.out.ext hx2)
  have HC2 := Lib.hid (HC1.out.ext hx2)
  clear hx2 HX1 HB1 HC1 HX0 HB0
  go_wp2
  go_loopw [6] (fun iv wr => ∃ k : Nat, k ≤ l.length ∧ iv = .int .i64 k ∧ CM wr g b (adds [] (l.take k)) ∧ ExtM b w2 wr) (fun iv _ => l.length - (intOf iv).toNat)
  case atStart => exact ⟨0, Nat.zero_le _, rfl, HC2.out, ExtM.refl _ _⟩
  case round =>
    obtain ⟨k, hk, rfl, hc, hext⟩ := hrel
    rename World => wA
    have HC := Lib.hid hc
    have HE := Lib.hid hext
    have HW := Lib.hid (HX2.out.andM hext (Nat.le_of_lt HBB.out))
    by_cases hlt : k < l.length
    · have g1 : (k : Int) < (l.length : Int) := by omega
      have g0 : 0 ≤ (k : Int) := by omega
      obtain ⟨bA, oA, rfl, c0, c1, c2, c3, c4⟩ := re5 (HV.out.ext HW.out) hlt
      have HS := Lib.hid (adds_s [] l k hlt)
      generalize adds [] (l.take k) = L at *
      generalize l[k] = y at *
      obtain ⟨⟨⟨y1, y2⟩, y3, y4⟩, y5⟩ := y
      dsimp only at *
      have HA := Lib.hid (fun w h => add_any w g b L h ((y1, y2), y3, y4) y5)
      clear hc hext
      go_wp2
      refine wp_regionY [46] [] Ext (ExtM b) (fun w => CM w g b L) (by kernel_rfl) (by rfl) (by rfl) (by kernel_rfl) (by kernel_rfl) (by kernel_rfl) (fun _ _ _ x y => x.trans y) (ExtM.refl b) (fun _ _ x => ExtM.of x) (Ext.refl _).drew (fun _ _ x y => x.ext y) (HC.out) ?_
      repeat (first | (refine wpY_move0 rfl rfl (by first | exact runs0 | exact runs1 rfl) Ext.refl rfl rfl rfl ?_; apply Exists.intro; refine ⟨?_, ?_⟩; · (go_simp; rfl)) | (refine wpY_move rfl rfl (by first | exact runs0 | exact runs1 rfl) Ext.refl rfl rfl rfl (fun _ _ _ h _ => h) ?_) | (refine wpY_val rfl rfl (by first | exact runs0 | exact runs1 rfl) Ext.refl rfl ?_; apply Exists.intro; refine ⟨?_, ?_⟩; · (intro a w' hR; intro h1; (first | (have e1 : _ = _ := h1) | skip); intro h2; (first | (have e2 : _ = _ := h2) | skip); go_simp; rfl)) | (refine wpY_val rfl rfl (by first | exact runs0 | exact runs1 rfl) Ext.refl rfl ?_; apply Exists.intro; refine ⟨?_, ?_⟩; · (intro a w' hR; intro h1; (first | (have e1 : _ = _ := h1) | skip); go_simp; rfl)) | (refine wpY_val rfl rfl (by first | exact runs0 | exact runs1 rfl) Ext.refl rfl ?_; apply Exists.intro; refine ⟨?_, ?_⟩; · (intro a w' hR; go_simp; rfl)) | (refine wpY_val rfl rfl (by first | exact runs0 | exact runs1 rfl) Ext.refl rfl ?_; apply Exists.intro; refine ⟨?_, ?_⟩; · (intro a w' hR; intro h1; (first | (have e1 : _ = _ := h1) | skip); intro h2; (first | (have e2 : _ = _ := h2) | skip); intro h3; (first | (have e3 : _ = _ := h3) | skip); go_simp; rfl)) | (refine wpY_skip rfl rfl (by first | exact .inl rfl | exact .inr rfl) ?_))
      refine wpY_val rfl rfl (by first | exact runs0 | exact runs1 rfl) Ext.refl rfl ?_; apply Exists.intro; refine ⟨?_, ?_⟩
      · intro a w' hR h1
        have e1 : _ = _ := h1
        have hl0 := hR.cells _ _ c0
        have hl1 := hR.cells _ _ c1
        go_simp
        rfl
      repeat (first | (refine wpY_move0 rfl rfl (by first | exact runs0 | exact runs1 rfl) Ext.refl rfl rfl rfl ?_; apply Exists.intro; refine ⟨?_, ?_⟩; · (go_simp; rfl)) | (refine wpY_move rfl rfl (by first | exact runs0 | exact runs1 rfl) Ext.refl rfl rfl rfl (fun _ _ _ h _ => h) ?_) | (refine wpY_val rfl rfl (by first | exact runs0 | exact runs1 rfl) Ext.refl rfl ?_; apply Exists.intro; refine ⟨?_, ?_⟩; · (intro a w' hR; intro h1; (first | (have e1 : _ = _ := h1) | skip); intro h2; (first | (have e2 : _ = _ := h2) | skip); go_simp; rfl)) | (refine wpY_val rfl rfl (by first | exact runs0 | exact runs1 rfl) Ext.refl rfl ?_; apply Exists.intro; refine ⟨?_, ?_⟩; · (intro a w' hR; intro h1; (first | (have e1 : _ = _ := h1) | skip); go_simp; rfl)) | (refine wpY_val rfl rfl (by first | exact runs0 | exact runs1 rfl) Ext.refl rfl ?_; apply Exists.intro; refine ⟨?_, ?_⟩; · (intro a w' hR; go_simp; rfl)) | (refine wpY_val rfl rfl (by first | exact runs0 | exact runs1 rfl) Ext.refl rfl ?_; apply Exists.intro; refine ⟨?_, ?_⟩; · (intro a w' hR; intro h1; (first | (have e1 : _ = _ := h1) | skip); intro h2; (first | (have e2 : _ = _ := h2) | skip); intro h3; (first | (have e3 : _ = _ := h3) | skip); go_simp; rfl)) | (refine wpY_skip rfl rfl (by first | exact .inl rfl | exact .inr rfl) ?_))
      refine wpY_val rfl rfl (by first | exact runs0 | exact runs1 rfl) Ext.refl rfl ?_; apply Exists.intro; refine ⟨?_, ?_⟩
      · intro a w' hR h1
        have e1 : _ = _ := h1
        have hl0 := hR.cells _ _ c2
        have hl1 := hR.cells _ _ c3
        go_simp
        rfl
      repeat (first | (refine wpY_move0 rfl rfl (by first | exact runs0 | exact runs1 rfl) Ext.refl rfl rfl rfl ?_; apply Exists.intro; refine ⟨?_, ?_⟩; · (go_simp; rfl)) | (refine wpY_move rfl rfl (by first | exact runs0 | exact runs1 rfl) Ext.refl rfl rfl rfl (fun _ _ _ h _ => h) ?_) | (refine wpY_val rfl rfl (by first | exact runs0 | exact runs1 rfl) Ext.refl rfl ?_; apply Exists.intro; refine ⟨?_, ?_⟩; · (intro a w' hR; intro h1; (first | (have e1 : _ = _ := h1) | skip); intro h2; (first | (have e2 : _ = _ := h2) | skip); go_simp; rfl)) | (refine wpY_val rfl rfl (by first | exact runs0 | exact runs1 rfl) Ext.refl rfl ?_; apply Exists.intro; refine ⟨?_, ?_⟩; · (intro a w' hR; intro h1; (first | (have e1 : _ = _ := h1) | skip); go_simp; rfl)) | (refine wpY_val rfl rfl (by first | exact runs0 | exact runs1 rfl) Ext.refl rfl ?_; apply Exists.intro; refine ⟨?_, ?_⟩; · (intro a w' hR; go_simp; rfl)) | (refine wpY_val rfl rfl (by first | exact runs0 | exact runs1 rfl) Ext.refl rfl ?_; apply Exists.intro; refine ⟨?_, ?_⟩; · (intro a w' hR; intro h1; (first | (have e1 : _ = _ := h1) | skip); intro h2; (first | (have e2 : _ = _ := h2) | skip); intro h3; (first | (have e3 : _ = _ := h3) | skip); go_simp; rfl)) | (refine wpY_skip rfl rfl (by first | exact .inl rfl | exact .inr rfl) ?_))
      refine wpY_val rfl rfl (by first | exact runs0 | exact runs1 rfl) Ext.refl rfl ?_; apply Exists.intro; refine ⟨?_, ?_⟩
      · intro a w' hR h1
        have e1 : _ = _ := h1
        have hl0 := hR.cells _ _ c4
        go_simp
        rfl
      refine wpY_eff (fun v _ => v = .int .i64 (Cnt.add L ((y1, y2), y3, y4) y5).2) (fun w => CM w g b (Cnt.add L ((y1, y2), y3, y4) y5).1) rfl (by first | exact runs0 | exact runs1 rfl) rfl (by first | exact mono_eq | exact (fun _ _ _ h k => Rd.ext h k) | exact (fun _ _ _ h k => RB.ext h k) | exact (fun _ _ _ h k => OB.ext h k) | exact (fun _ _ _ h k => RB.extS h k) | exact (fun _ _ _ h k => Rd.ext h (GrownW.ext k)) | exact (fun _ _ _ h k => RP.ext h k) | exact (fun _ _ _ h k => OP.ext h k) | exact (fun _ _ _ h k => Rd.extV h k) | exact (fun _ _ _ h k => RB.extV h k) | exact (fun _ _ _ h k => E0.ext h k) | exact (fun _ _ _ h k => O0.ext h k) | exact (fun _ _ _ h _ => h)) (fun _ _ x y => x.ext y) ?_ ?_
      · intro a w' hR hS h1 h2 h3 h4 K hK
        have e1 : _ = _ := h1
        have e2 : _ = _ := h2
        have e3 : _ = _ := h3
        have e4 : _ = _ := h4
        go_simp
        refine (HA.out w' hS).mono ?_
        rintro e w2 ⟨rfl, hc, he⟩
        exact hK _ _ he hc rfl
      refine wpY_done ?_
      intro w5 hx5 hS5
      iterate 17 (rintro _ rfl)
      dsimp only [FinV]
      go_simp
      have hx5 : ExtM b wA w5 := hx5
      have HX5 := Lib.hid (HE.out.trans hx5)
      have HS5 := Lib.hid hS5
      clear hx5 hS5
      go_wp2
      exact ⟨⟨k + 1, by omega, by go_num, by rw [HS.out]; exact HS5.out, HX5.out⟩, by simp [intOf]; omega⟩
    · obtain rfl : k = l.length := by omega
      have g1 : ¬ (l.length : Int) < (l.length : Int) := by omega
      rw [List.take_length] at HC
      generalize adds [] l = L at *
      have HB3 := Lib.hid (HB2.out.extM HE.out (Nat.ne_of_lt HBB.out))
      have HO := Lib.hid (fun (w : World) g b (L : List Cnt.S) h => of_any w g b L h ((x1, x2), x3, x4))
      have HA := Lib.hid (fun w g b h => add_any w g b L h ((x1, x2), x3, x4) x5)
      have HK := Lib.hid (show ((Cnt.add L ((x1, x2), x3, x4) x5).2 = 0 ∧ Cnt.was (Cnt.add L ((x1, x2), x3, x4) x5).1 ((x1, x2), x3, x4) = Cnt.was L ((x1, x2), x3, x4) + x5) ∨ (((Cnt.add L ((x1, x2), x3, x4) x5).2 = 40 ∨ (Cnt.add L ((x1, x2), x3, x4) x5).2 = 210) ∧ (Cnt.add L ((x1, x2), x3, x4) x5).1 = L) by
        unfold Cnt.add
        split
        · exact .inr ⟨.inl rfl, rfl⟩
        · split
          · exact .inr ⟨.inr rfl, rfl⟩
          · rename_i hr
            refine .inl ⟨rfl, ?_⟩
            have hb := Cnt.was_bounds HC.out.good ((x1, x2), x3, x4)
            rw [Cnt.rput_was HC.out.good _ (by simp only; omega) (by simp only; omega)]
            simp)
      obtain ⟨z0, z1⟩ := Cnt.was_bounds HC.out.good ((x1, x2), x3, x4)
      clear hc hext
      have d0 : wA.cell? ⟨w.heap.size, 0, none⟩ = some (.int .i64 x1) := HB3.out.cell 0
      have d1 : wA.cell? ⟨w.heap.size, 1, none⟩ = some (.int .i64 x2) := HB3.out.cell 1
      have d2 : wA.cell? ⟨w.heap.size, 2, none⟩ = some (.int .i64 x3) := HB3.out.cell 2
      have d3 : wA.cell? ⟨w.heap.size, 3, none⟩ = some (.int .i64 x4) := HB3.out.cell 3
      have d4 : wA.cell? ⟨w.heap.size, 4, none⟩ = some (.int .i64 x5) := HB3.out.cell 4
      go_wp2_with fail
      refine (HO.out wA g b L HC.out).mono ?_
      rintro e w5 ⟨rfl, he5⟩
      have HX5 := Lib.hid (HW.out.trans he5)
      have HC5 := Lib.hid (HC.out.ext he5)
      have d0 := he5.cell d0
      have d1 := he5.cell d1
      have d2 := he5.cell d2
      have d3 := he5.cell d3
      have d4 := he5.cell d4
      clear he5
      go_wp2_with fail
      refine (clone_any w5 g b L HC5.out).mono ?_
      rintro e w6 ⟨g6, b6, rfl, hg6, hb6, hd, he6⟩
      have HX6 := Lib.hid (HX5.out.trans he6)
      have HC6 := Lib.hid (HC5.out.ext he6)
      have HD6 := Lib.hid hd
      have hlt := HC5.out.lt
      have HNE := Lib.hid (show g ≠ b6 ∧ b ≠ b6 by omega)
      have HBS := Lib.hid (show w.heap.size ≤ b6 from Nat.le_trans HX5.out.size hb6)
      have d0 := he6.cell d0
      have d1 := he6.cell d1
      have d2 := he6.cell d2
      have d3 := he6.cell d3
      have d4 := he6.cell d4
      clear he6 hg6 hb6 hd hlt
      go_wp2_with fail
      refine (HA.out w6 g6 b6 HD6.out).mono ?_
      rintro e w7 ⟨rfl, hd7, he7⟩
      have HX7 := Lib.hid (HX6.out.andM he7 HBS.out)
      have HC7 := Lib.hid (HC6.out.extM he7 HNE.out.1 HNE.out.2)
      have HD7 := Lib.hid hd7
      have d0 := he7.cells _ _ d0
      have d1 := he7.cells _ _ d1
      have d2 := he7.cells _ _ d2
      have d3 := he7.cells _ _ d3
      have d4 := he7.cells _ _ d4
      clear he7 hd7
      have HO7 := Lib.hid (HO.out w7 g6 b6 _ HD7.out)
      go_wp2_with fail
      refine HO7.out.mono ?_
      rintro e w8 ⟨rfl, he8⟩
      have HX8 := Lib.hid (HX7.out.trans he8)
      have HC8 := Lib.hid (HC7.out.ext he8)
      have d0 := he8.cell d0
      have d1 := he8.cell d1
      have d2 := he8.cell d2
      have d3 := he8.cell d3
      have d4 := he8.cell d4
      clear he8
      go_wp2_with fail
      refine (HO.out w8 g b L HC8.out).mono ?_
      rintro e w9 ⟨rfl, he9⟩
      have HX9 := Lib.hid (HX8.out.trans he9)
      have d4 := he9.cell d4
      clear he9 d0 d1 d2 d3
      rcases HK.out with ⟨h1, h2⟩ | ⟨h1, h2⟩
      · rw [h1, h2]
        have hb := Cnt.was_bounds HD7.out.good ((x1, x2), x3, x4)
        rw [h2] at hb
        obtain ⟨z2, z3⟩ := hb
        clear h1 h2
        generalize Cnt.was L ((x1, x2), x3, x4) = z at *
        go_wp2
        go_ret
        exact ⟨by simp, HX9.out⟩
      · rw [h2]
        generalize (Cnt.add L ((x1, x2), x3, x4) x5).2 = q at *
        generalize Cnt.was L ((x1, x2), x3, x4) = z at *
        rcases h1 with rfl | rfl
        · go_wp2
          go_ret
          exact ⟨by simp, HX9.out⟩
        · go_wp2
          go_ret
          exact ⟨by simp, HX9.out⟩
theorem countOwn_law (w : World) (v : Value) (l : List Cnt.S) (hv : RE w v l) (u : Value) (x : Cnt.S) (h : u = sV x) : Calls Try.prog 7 #[v, u] w fun e w' => e = .returned (.bool true) ∧ Ext w w' := by
  subst h
  by_cases hl : 60 < l.length
  · exact own_long v l x w hv hl
  · exact own_short v l x w hv (by omega)
end Go.Proofs.Ytngdlahgihbmhaa
