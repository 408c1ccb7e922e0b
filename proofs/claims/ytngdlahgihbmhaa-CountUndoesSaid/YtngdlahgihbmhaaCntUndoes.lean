/-
  The statements of layer 21: CountUndoes.
-/
import Derived.Test.YtngdlahgihbmhaaCntOwn
import Derived.Test.YtngdlahgihbmhaaCntMath2
namespace Go.Proofs.Ytngdlahgihbmhaa
open Go.RowKit Go.Ox Go.Shelf
set_option linter.unusedVariables false
set_option linter.unusedSimpArgs false
attribute [local irreducible] OP RP

theorem extM_below {b : Nat} {a c d : World} (h : ExtM b a c) (k : Below a.heap.size c d) : ExtM b a d :=
  ⟨k.os.trans h.os, k.tape.trans h.tape, k.output.trans h.output, Nat.le_trans h.size k.size, fun x hx hn => (k.block x hx).trans (h.block x hx hn), fun p v hv => by
    rw [Below.cell k (World.block_lt_of_cell? a p hv)]; exact h.cells p v hv⟩
theorem done_x {L rest : List Cnt.S} {x : Cnt.S} (h : Cnt.Done L (x :: rest)) : 0 ≤ x.2 ∧ x.2 ≤ 1073741824 := by
  have hx := h.pos x (List.mem_cons_self ..)
  have hr : ∀ y ∈ rest, 0 ≤ y.2 := fun y hy => (h.pos y (List.mem_cons_of_mem _ hy)).1
  have hw := h.was x.1
  rw [Cnt.sumK_cons, if_pos rfl] at hw
  have hs := Cnt.sumK_pos hr x.1
  have hb := Cnt.was_bounds h.good x.1
  omega
theorem done_len {L : List Cnt.S} (hg : Cnt.Good L) : 0 ≤ Cnt.tot L := (Cnt.tot_bounds hg).1

set_option maxRecDepth 100000 in
set_option maxHeartbeats 8000000 in
theorem undoes_any (v : Value) (l : List Cnt.S) (w : World) (hv : RE w v l) :
    Calls Try.prog 4 #[v] w fun e w' => e = .returned (.bool true) ∧ Ext w w' := by
  obtain ⟨A, c, rfl⟩ := hv.form
  have HV := Lib.hid hv
  have hlb : l.length ≤ 9223372036854775807 := by have := hv.nc; unfold maxLen at this; omega
  clear hv
  go_enter Try.func4, Try.ntmps4
  go_wp2_with fail
  refine (new_any _).mono ?_
  rintro e w1 ⟨g, b, rfl, hg1, hb1, hc, hx1⟩
  have HC1 := Lib.hid hc
  have HX1 := Lib.hid hx1
  have HSZ := Lib.hid (show w.heap.size ≤ b from hb1)
  clear hc hx1 hg1 hb1
  go_wp2_with fail
  refine (lives_any _).mono ?_
  rintro e w3 ⟨rfl, he3⟩
  have HC3 := Lib.hid (HC1.out.ext he3)
  have HX3 := Lib.hid (HX1.out.trans he3)
  clear he3 HC1 HX1
  go_wp2
  go_loopw [4, 5] (fun o iv wr => ∃ (k : Nat) (L D : List Cnt.S), k ≤ l.length ∧ k ≤ 80 ∧ D.length ≤ k ∧ L.length ≤ k ∧ iv = .int .i64 k ∧ CM wr g b L ∧ Cnt.Done L D ∧ OE 34 w3.heap.size wr o D ∧ ExtM b w3 wr) (fun _ iv _ => l.length - (intOf iv).toNat)
  case atStart => exact ⟨0, [], [], Nat.zero_le _, by omega, Nat.le_refl _, Nat.le_refl _, rfl, HC3.out, Cnt.Done.start, OE.nilS _ _ _, ExtM.refl _ _⟩
  case round =>
    obtain ⟨k, L, D, hk, hk80, hDk, hLk, rfl, hc, hd, ho, hext⟩ := hrel
    rename World => wA
    have HC := Lib.hid hc
    have HD := Lib.hid hd
    have HO := Lib.hid ho
    have HE := Lib.hid hext
    have HW := Lib.hid (HX3.out.andM hext HSZ.out)
    obtain ⟨AD, cD, rfl⟩ := ho.re.form
    by_cases hlt : k < l.length ∧ k < 80
    · obtain ⟨hlt, hlt2⟩ := hlt
      have g1 : (k : Int) < (l.length : Int) := by omega
      have g2 : (k : Int) < 80 := by omega
      have g0 : 0 ≤ (k : Int) := by omega
      obtain ⟨bA, oA, rfl, c0, c1, c2, c3, c4⟩ := re5 (HV.out.ext HW.out) hlt
      generalize l[k] = y at *
      obtain ⟨⟨⟨y1, y2⟩, y3, y4⟩, y5⟩ := y
      dsimp only at *
      have hln2 := Cnt.add_len L ((y1, y2), y3, y4) y5
      have HA := Lib.hid (fun w h => add_any w g b L h ((y1, y2), y3, y4) y5)
      have HPUT := Lib.hid (fun hn h0 => hd.put (k := ((y1, y2), y3, y4)) (n := y5) hn h0)
      have HFAIL := Lib.hid (fun h => Cnt.add_fail (L := L) (k := ((y1, y2), y3, y4)) (n := y5) h)
      generalize (Cnt.add L ((y1, y2), y3, y4) y5).1 = M at *
      generalize (Cnt.add L ((y1, y2), y3, y4) y5).2 = q at *
      clear hc hd ho hext
      by_cases hn : y5 < 0
      · have hdd : decide (0 ≤ y5) = false := decide_eq_false (by omega)
        go_wp2
        refine wp_region_ext (by kernel_rfl) (by rfl) (by rfl) (by kernel_rfl) ?_
        repeat (first | ((first | (refine wpM_move00 Ext.refl rfl rfl rfl ?_) | (refine wpM_move01 Ext.refl rfl rfl rfl rfl ?_)); apply Exists.intro; refine ⟨?_, ?_⟩; · (go_simp; rfl)) | (first | (refine wpM_movek0 Ext.refl rfl rfl rfl ?_) | (refine wpM_movek1 Ext.refl rfl rfl rfl rfl ?_)) | ((first | (refine wpM_val0 Ext.refl rfl ?_) | (refine wpM_val1 Ext.refl rfl rfl ?_)); apply Exists.intro; refine ⟨?_, ?_⟩; · (intro a w' hR; intro h1; (first | (have e1 : _ = _ := h1) | skip); intro h2; (first | (have e2 : _ = _ := h2) | skip); go_simp; rfl)) | ((first | (refine wpM_val0 Ext.refl rfl ?_) | (refine wpM_val1 Ext.refl rfl rfl ?_)); apply Exists.intro; refine ⟨?_, ?_⟩; · (intro a w' hR; intro h1; (first | (have e1 : _ = _ := h1) | skip); go_simp; rfl)) | ((first | (refine wpM_val0 Ext.refl rfl ?_) | (refine wpM_val1 Ext.refl rfl rfl ?_)); apply Exists.intro; refine ⟨?_, ?_⟩; · (intro a w' hR; go_simp; rfl)) | ((first | (refine wpM_val0 Ext.refl rfl ?_) | (refine wpM_val1 Ext.refl rfl rfl ?_)); apply Exists.intro; refine ⟨?_, ?_⟩; · (intro a w' hR; intro h1; (first | (have e1 : _ = _ := h1) | skip); intro h2; (first | (have e2 : _ = _ := h2) | skip); intro h3; (first | (have e3 : _ = _ := h3) | skip); go_simp; rfl)) | (refine wpM_skip1 rfl ?_))
        (first | (refine wpM_val0 Ext.refl rfl ?_) | (refine wpM_val1 Ext.refl rfl rfl ?_)); apply Exists.intro; refine ⟨?_, ?_⟩
        · intro a w' hR h1
          have e1 : _ = _ := h1
          have hl0 := hR.cell c4
          go_simp
          rfl
        repeat (first | ((first | (refine wpM_move00 Ext.refl rfl rfl rfl ?_) | (refine wpM_move01 Ext.refl rfl rfl rfl rfl ?_)); apply Exists.intro; refine ⟨?_, ?_⟩; · (go_simp; rfl)) | (first | (refine wpM_movek0 Ext.refl rfl rfl rfl ?_) | (refine wpM_movek1 Ext.refl rfl rfl rfl rfl ?_)) | ((first | (refine wpM_val0 Ext.refl rfl ?_) | (refine wpM_val1 Ext.refl rfl rfl ?_)); apply Exists.intro; refine ⟨?_, ?_⟩; · (intro a w' hR; intro h1; (first | (have e1 : _ = _ := h1) | skip); intro h2; (first | (have e2 : _ = _ := h2) | skip); go_simp; rfl)) | ((first | (refine wpM_val0 Ext.refl rfl ?_) | (refine wpM_val1 Ext.refl rfl rfl ?_)); apply Exists.intro; refine ⟨?_, ?_⟩; · (intro a w' hR; intro h1; (first | (have e1 : _ = _ := h1) | skip); go_simp; rfl)) | ((first | (refine wpM_val0 Ext.refl rfl ?_) | (refine wpM_val1 Ext.refl rfl rfl ?_)); apply Exists.intro; refine ⟨?_, ?_⟩; · (intro a w' hR; go_simp; rfl)) | ((first | (refine wpM_val0 Ext.refl rfl ?_) | (refine wpM_val1 Ext.refl rfl rfl ?_)); apply Exists.intro; refine ⟨?_, ?_⟩; · (intro a w' hR; intro h1; (first | (have e1 : _ = _ := h1) | skip); intro h2; (first | (have e2 : _ = _ := h2) | skip); intro h3; (first | (have e3 : _ = _ := h3) | skip); go_simp; rfl)) | (refine wpM_skip1 rfl ?_))
        refine wpM_done ?_
        intro w5 hx5
        iterate 26 (rintro _ rfl)
        dsimp only [FinV]
        go_simp
        have HC5 := Lib.hid (HC.out.ext hx5)
        have HO5 := Lib.hid (HO.out.ext hx5)
        have HE5 := Lib.hid (HE.out.trans (ExtM.of hx5))
        clear hx5
        go_wp2
        exact ⟨⟨k + 1, L, D, by omega, by omega, by omega, by omega, by go_num, HC5.out, HD.out, HO5.out, HE5.out⟩, by simp [intOf]; omega⟩
      · have hn2 : 0 ≤ y5 := by omega
        go_wp2
        refine wp_regionY [51] [] Ext (ExtM b) (fun w => CM w g b L) (by kernel_rfl) (by rfl) (by rfl) (by kernel_rfl) (by kernel_rfl) (by kernel_rfl) (fun _ _ _ x y => x.trans y) (ExtM.refl b) (fun _ _ x => ExtM.of x) (Ext.refl _).drew (fun _ _ x y => x.ext y) (HC.out) ?_
        repeat (first | (refine wpY_move0 rfl rfl (by first | exact runs0 | exact runs1 rfl) Ext.refl rfl rfl rfl ?_; apply Exists.intro; refine ⟨?_, ?_⟩; · (go_simp; rfl)) | (refine wpY_move rfl rfl (by first | exact runs0 | exact runs1 rfl) Ext.refl rfl rfl rfl (fun _ _ _ h _ => h) ?_) | (refine wpY_val rfl rfl (by first | exact runs0 | exact runs1 rfl) Ext.refl rfl ?_; apply Exists.intro; refine ⟨?_, ?_⟩; · (intro a w' hR; intro h1; (first | (have e1 : _ = _ := h1) | skip); intro h2; (first | (have e2 : _ = _ := h2) | skip); go_simp; rfl)) | (refine wpY_val rfl rfl (by first | exact runs0 | exact runs1 rfl) Ext.refl rfl ?_; apply Exists.intro; refine ⟨?_, ?_⟩; · (intro a w' hR; intro h1; (first | (have e1 : _ = _ := h1) | skip); go_simp; rfl)) | (refine wpY_val rfl rfl (by first | exact runs0 | exact runs1 rfl) Ext.refl rfl ?_; apply Exists.intro; refine ⟨?_, ?_⟩; · (intro a w' hR; go_simp; rfl)) | (refine wpY_val rfl rfl (by first | exact runs0 | exact runs1 rfl) Ext.refl rfl ?_; apply Exists.intro; refine ⟨?_, ?_⟩; · (intro a w' hR; intro h1; (first | (have e1 : _ = _ := h1) | skip); intro h2; (first | (have e2 : _ = _ := h2) | skip); intro h3; (first | (have e3 : _ = _ := h3) | skip); go_simp; rfl)) | (refine wpY_skip rfl rfl (by first | exact .inl rfl | exact .inr rfl) ?_))
        refine wpY_val rfl rfl (by first | exact runs0 | exact runs1 rfl) Ext.refl rfl ?_; apply Exists.intro; refine ⟨?_, ?_⟩
        · intro a w' hR h1
          have e1 : _ = _ := h1
          have hl0 := hR.cells _ _ c4
          go_simp
          rfl
        repeat (first | (refine wpY_move0 rfl rfl (by first | exact runs0 | exact runs1 rfl) Ext.refl rfl rfl rfl ?_; apply Exists.intro; refine ⟨?_, ?_⟩; · (go_simp; rfl)) | (refine wpY_move rfl rfl (by first | exact runs0 | exact runs1 rfl) Ext.refl rfl rfl rfl (fun _ _ _ h _ => h) ?_) | (refine wpY_val rfl rfl (by first | exact runs0 | exact runs1 rfl) Ext.refl rfl ?_; apply Exists.intro; refine ⟨?_, ?_⟩; · (intro a w' hR; intro h1; (first | (have e1 : _ = _ := h1) | skip); intro h2; (first | (have e2 : _ = _ := h2) | skip); go_simp; rfl)) | (refine wpY_val rfl rfl (by first | exact runs0 | exact runs1 rfl) Ext.refl rfl ?_; apply Exists.intro; refine ⟨?_, ?_⟩; · (intro a w' hR; intro h1; (first | (have e1 : _ = _ := h1) | skip); go_simp; rfl)) | (refine wpY_val rfl rfl (by first | exact runs0 | exact runs1 rfl) Ext.refl rfl ?_; apply Exists.intro; refine ⟨?_, ?_⟩; · (intro a w' hR; go_simp; rfl)) | (refine wpY_val rfl rfl (by first | exact runs0 | exact runs1 rfl) Ext.refl rfl ?_; apply Exists.intro; refine ⟨?_, ?_⟩; · (intro a w' hR; intro h1; (first | (have e1 : _ = _ := h1) | skip); intro h2; (first | (have e2 : _ = _ := h2) | skip); intro h3; (first | (have e3 : _ = _ := h3) | skip); go_simp; rfl)) | (refine wpY_skip rfl rfl (by first | exact .inl rfl | exact .inr rfl) ?_))
        refine wpY_val rfl rfl (by first | exact runs0 | exact runs1 rfl) Ext.refl rfl ?_; apply Exists.intro; refine ⟨?_, ?_⟩
        · intro a w' hR h1
          have e1 : _ = _ := h1
          have hl0 := hR.cells _ _ c0
          have hl1 := hR.cells _ _ c1
          go_simp
          rfl
        repeat (first | (refine wpY_move0 rfl rfl (by first | exact runs0 | exact runs1 rfl) Ext.refl rfl rfl rfl ?_; apply Exists.intro; refine ⟨?_, ?_⟩; · (go_simp; rfl)) | (refine wpY_move rfl rfl (by first | exact runs0 | exact runs1 rfl) Ext.refl rfl rfl rfl (fun _ _ _ h _ => h) ?_) | (refine wpY_val rfl rfl (by first | exact runs0 | exact runs1 rfl) Ext.refl rfl ?_; apply Exists.intro; refine ⟨?_, ?_⟩; · (intro a w' hR; intro h1; (first | (have e1 : _ = _ := h1) | skip); intro h2; (first | (have e2 : _ = _ := h2) | skip); go_simp; rfl)) | (refine wpY_val rfl rfl (by first | exact runs0 | exact runs1 rfl) Ext.refl rfl ?_; apply Exists.intro; refine ⟨?_, ?_⟩; · (intro a w' hR; intro h1; (first | (have e1 : _ = _ := h1) | skip); go_simp; rfl)) | (refine wpY_val rfl rfl (by first | exact runs0 | exact runs1 rfl) Ext.refl rfl ?_; apply Exists.intro; refine ⟨?_, ?_⟩; · (intro a w' hR; go_simp; rfl)) | (refine wpY_val rfl rfl (by first | exact runs0 | exact runs1 rfl) Ext.refl rfl ?_; apply Exists.intro; refine ⟨?_, ?_⟩; · (intro a w' hR; intro h1; (first | (have e1 : _ = _ := h1) | skip); intro h2; (first | (have e2 : _ = _ := h2) | skip); intro h3; (first | (have e3 : _ = _ := h3) | skip); go_simp; rfl)) | (refine wpY_skip rfl rfl (by first | exact .inl rfl | exact .inr rfl) ?_))
        refine wpY_val rfl rfl (by first | exact runs0 | exact runs1 rfl) Ext.refl rfl ?_; apply Exists.intro; refine ⟨?_, ?_⟩
        · intro a w' hR h1
          have e1 : _ = _ := h1
          have hl0 := hR.cells _ _ c2
          have hl1 := hR.cells _ _ c3
          go_simp
          rfl
        repeat (first | (refine wpY_move0 rfl rfl (by first | exact runs0 | exact runs1 rfl) Ext.refl rfl rfl rfl ?_; apply Exists.intro; refine ⟨?_, ?_⟩; · (go_simp; rfl)) | (refine wpY_move rfl rfl (by first | exact runs0 | exact runs1 rfl) Ext.refl rfl rfl rfl (fun _ _ _ h _ => h) ?_) | (refine wpY_val rfl rfl (by first | exact runs0 | exact runs1 rfl) Ext.refl rfl ?_; apply Exists.intro; refine ⟨?_, ?_⟩; · (intro a w' hR; intro h1; (first | (have e1 : _ = _ := h1) | skip); intro h2; (first | (have e2 : _ = _ := h2) | skip); go_simp; rfl)) | (refine wpY_val rfl rfl (by first | exact runs0 | exact runs1 rfl) Ext.refl rfl ?_; apply Exists.intro; refine ⟨?_, ?_⟩; · (intro a w' hR; intro h1; (first | (have e1 : _ = _ := h1) | skip); go_simp; rfl)) | (refine wpY_val rfl rfl (by first | exact runs0 | exact runs1 rfl) Ext.refl rfl ?_; apply Exists.intro; refine ⟨?_, ?_⟩; · (intro a w' hR; go_simp; rfl)) | (refine wpY_val rfl rfl (by first | exact runs0 | exact runs1 rfl) Ext.refl rfl ?_; apply Exists.intro; refine ⟨?_, ?_⟩; · (intro a w' hR; intro h1; (first | (have e1 : _ = _ := h1) | skip); intro h2; (first | (have e2 : _ = _ := h2) | skip); intro h3; (first | (have e3 : _ = _ := h3) | skip); go_simp; rfl)) | (refine wpY_skip rfl rfl (by first | exact .inl rfl | exact .inr rfl) ?_))
        refine wpY_val rfl rfl (by first | exact runs0 | exact runs1 rfl) Ext.refl rfl ?_; apply Exists.intro; refine ⟨?_, ?_⟩
        · intro a w' hR h1
          have e1 : _ = _ := h1
          have hl0 := hR.cells _ _ c4
          go_simp
          rfl
        refine wpY_eff (fun v _ => v = .int .i64 q) (fun w => CM w g b M) rfl (by first | exact runs0 | exact runs1 rfl) rfl (by first | exact mono_eq | exact (fun _ _ _ h k => Rd.ext h k) | exact (fun _ _ _ h k => RB.ext h k) | exact (fun _ _ _ h k => OB.ext h k) | exact (fun _ _ _ h k => RB.extS h k) | exact (fun _ _ _ h k => Rd.ext h (GrownW.ext k)) | exact (fun _ _ _ h k => RP.ext h k) | exact (fun _ _ _ h k => OP.ext h k) | exact (fun _ _ _ h k => Rd.extV h k) | exact (fun _ _ _ h k => RB.extV h k) | exact (fun _ _ _ h k => E0.ext h k) | exact (fun _ _ _ h k => O0.ext h k) | exact (fun _ _ _ h k => RE.ext h k) | exact (fun _ _ _ h k => RE.extD h k) | exact (fun _ _ _ h _ => h)) (fun _ _ x y => x.ext y) ?_ ?_
        · intro a w' hR hS h1 h2 h3 h4 K hK
          have e1 : _ = _ := h1
          have e2 : _ = _ := h2
          have e3 : _ = _ := h3
          have e4 : _ = _ := h4
          go_simp
          refine (HA.out w' hS).mono ?_
          rintro e w2 ⟨rfl, hc, he⟩
          exact hK _ _ he hc rfl
        repeat (first | (refine wpY_move0 rfl rfl (by first | exact runs0 | exact runs1 rfl) Ext.refl rfl rfl rfl ?_; apply Exists.intro; refine ⟨?_, ?_⟩; · (go_simp; rfl)) | (refine wpY_move rfl rfl (by first | exact runs0 | exact runs1 rfl) Ext.refl rfl rfl rfl (fun _ _ _ h _ => h) ?_) | (refine wpY_val rfl rfl (by first | exact runs0 | exact runs1 rfl) Ext.refl rfl ?_; apply Exists.intro; refine ⟨?_, ?_⟩; · (intro a w' hR; intro h1; (first | (have e1 : _ = _ := h1) | skip); intro h2; (first | (have e2 : _ = _ := h2) | skip); go_simp; rfl)) | (refine wpY_val rfl rfl (by first | exact runs0 | exact runs1 rfl) Ext.refl rfl ?_; apply Exists.intro; refine ⟨?_, ?_⟩; · (intro a w' hR; intro h1; (first | (have e1 : _ = _ := h1) | skip); go_simp; rfl)) | (refine wpY_val rfl rfl (by first | exact runs0 | exact runs1 rfl) Ext.refl rfl ?_; apply Exists.intro; refine ⟨?_, ?_⟩; · (intro a w' hR; go_simp; rfl)) | (refine wpY_val rfl rfl (by first | exact runs0 | exact runs1 rfl) Ext.refl rfl ?_; apply Exists.intro; refine ⟨?_, ?_⟩; · (intro a w' hR; intro h1; (first | (have e1 : _ = _ := h1) | skip); intro h2; (first | (have e2 : _ = _ := h2) | skip); intro h3; (first | (have e3 : _ = _ := h3) | skip); go_simp; rfl)) | (refine wpY_skip rfl rfl (by first | exact .inl rfl | exact .inr rfl) ?_))
        refine wpY_done ?_
        intro w5 hx5 hS5
        iterate 26 (rintro _ rfl)
        dsimp only [FinV]
        go_simp
        have hx5 : ExtM b wA w5 := hx5
        have c0 := hx5.cells _ _ c0
        have c1 := hx5.cells _ _ c1
        have c2 := hx5.cells _ _ c2
        have c3 := hx5.cells _ _ c3
        have c4 := hx5.cells _ _ c4
        have HC5 := Lib.hid hS5
        have HE5 := Lib.hid (HE.out.trans hx5)
        have ho5 := HO.out.grown (ExtM.grown hx5) fun kk hk q => by
          injection q with q
          subst q
          obtain ⟨lm, hm, _⟩ := HC.out.map
          obtain ⟨es, clk, hb, _⟩ := hm
          rcases HO.out.own.2 with ⟨hq, _⟩ | ⟨g9, cap, cur, hq, hb9, hh, _⟩
          · rw [hq] at hk; cases hk
          · rw [hq] at hk
            injection hk with hk
            subst hk
            rw [hb] at hh
            cases hh
        have HO5 := Lib.hid ho5
        clear hx5 hS5 ho5
        by_cases hq0 : q = 0
        · subst hq0
          have HDN := Lib.hid (HPUT.out hn2 rfl)
          have hxl : Ext w5 (w5.alloc (.cells #[.int .i64 y1, .int .i64 y2, .int .i64 y3, .int .i64 y4, .int .i64 y5] 34)) := (Ext.refl _).alloc _
          have HLT := Lib.hid (RE.lit w5 #[.int .i64 y1, .int .i64 y2, .int .i64 y3, .int .i64 y4, .int .i64 y5] 34 1 [(((y1, y2), y3, y4), y5)] rfl (by omega) rfl)
          have HOL := Lib.hid (HO5.out.ext hxl)
          have HCL := Lib.hid (HC5.out.ext hxl)
          have HXL := Lib.hid (HE5.out.trans (ExtM.of hxl))
          clear hxl
          go_wp2_with (at_builtin; refine wpList_appE rfl elemS _ _ _ rfl w3.heap.size _ _ D [(((y1, y2), y3, y4), y5)] rfl HOL.out rfl HLT.out (by simp only [List.length_singleton]; omega) (by simp only [List.length_singleton]; unfold maxLen; omega) HXL.out.size ?_; intro v8 w8 ho8 hb8 hg8)
          have hlen : (D ++ [(((y1, y2), y3, y4), y5)]).length ≤ k + 1 := by rw [List.length_append, List.length_singleton]; omega
          have hc8 : CM w8 g b M := by
            obtain ⟨lm, hm, hmm⟩ := HCL.out.map
            have hlt := HCL.out.lt
            have hbx := HCL.out.box
            have hdis : ∀ kk, (Value.slice AD D.length cD).ownBlock = some kk → kk ≠ g ∧ kk ≠ b := by
              intro kk hk
              have h1 := (HOL.out.own.lt kk hk).1
              have h2 := HC3.out.lt
              omega
            exact ⟨blk_grown hbx hg8 fun kk hk => (hdis kk hk).1, HCL.out.ne, ⟨lm, hm.at_ (hg8.block b hlt.2 fun q => (hdis b q.symm).2 rfl), hmm⟩, HCL.out.good⟩
          have hx8 : ExtM b w3 w8 := extM_below HXL.out hb8
          exact ⟨⟨k + 1, M, D ++ [(((y1, y2), y3, y4), y5)], by omega, by omega, hlen, by omega, by go_num, hc8, HDN.out, ho8, hx8⟩, by simp [intOf]; omega⟩
        · have hq1 : (q == 0) = false := by simpa using hq0
          have HF := Lib.hid (HFAIL.out hq0)
          go_wp2
          exact ⟨⟨k + 1, M, D, by omega, by omega, by omega, by omega, by go_num, HC5.out, by rw [HF.out]; exact HD.out, HO5.out, HE5.out⟩, by simp [intOf]; omega⟩
    · have hgdA := hc.good
      clear hc hd ho hext
      by_cases h8 : k < l.length
      · have g1 : (k : Int) < (l.length : Int) := by omega
        have g2 : ¬ (k : Int) < 80 := by omega
        go_wp2_with fail
        refine (clone_any wA g b L HC.out).mono ?_
        rintro e w5 ⟨gd, bd, rfl, hgd, hbd, hcd, hx5⟩
        have hlt3 := HC.out.lt
        have HNE := Lib.hid (show gd ≠ b ∧ bd ≠ b by omega)
        have HC5 := Lib.hid (HC.out.ext hx5)
        have HD5 := Lib.hid hcd
        have HRD := Lib.hid (HO.out.re.ext hx5)
        have HW5 := Lib.hid (HW.out.trans hx5)
        clear hx5 hcd hgd hbd hlt3 HC HE HW
        go_wp2
        go_loopw [7] (fun iv wr => ∃ (j : Nat) (L2 : List Cnt.S), j ≤ D.length ∧ iv = .int .i64 j ∧ CM wr g b L2 ∧ Cnt.Done L2 (D.drop j) ∧ ExtM b w5 wr) (fun iv _ => D.length - (intOf iv).toNat)
        case atStart => exact ⟨0, L, Nat.zero_le _, rfl, HC5.out, HD.out, ExtM.refl _ _⟩
        case round =>
          obtain ⟨j, L2, hj, rfl, hc2, hd2, hext2⟩ := hrel
          rename World => wB
          have HC6 := Lib.hid hc2
          have HE6 := Lib.hid hext2
          by_cases hjl : j < D.length
          · have g3 : (j : Int) < (D.length : Int) := by omega
            have g4 : 0 ≤ (j : Int) := by omega
            obtain ⟨bX, oX, hAX, c0, c1, c2, c3, c4⟩ := re5 (Rd.extM HRD.out hext2 : RE wB _ D) hjl
            subst hAX
            rw [List.drop_eq_getElem_cons hjl] at hd2
            generalize D[j] = y at *
            obtain ⟨⟨⟨y1, y2⟩, y3, y4⟩, y5⟩ := y
            obtain ⟨h51, h52⟩ := done_x hd2
            obtain ⟨h53, h54⟩ := hd2.take
            have hwn : IntKind.i64.wrap (-y5) = -y5 := IntWalk.i64_in _ (by dsimp only at h51 h52; omega)
            dsimp only at *
            have HA := Lib.hid (fun w h => add_any w g b L2 h ((y1, y2), y3, y4) (-y5))
            rw [h53] at HA
            have HD7 := Lib.hid h54
            generalize (Cnt.add L2 ((y1, y2), y3, y4) (-y5)).1 = M at *
            clear hc2 hd2 hext2 h53 h54
            go_wp2
            refine wp_regionY [86] [] Ext (ExtM b) (fun w => CM w g b L2) (by kernel_rfl) (by rfl) (by rfl) (by kernel_rfl) (by kernel_rfl) (by kernel_rfl) (fun _ _ _ x y => x.trans y) (ExtM.refl b) (fun _ _ x => ExtM.of x) (Ext.refl _).drew (fun _ _ x y => x.ext y) (HC6.out) ?_
            repeat (first | (refine wpY_move0 rfl rfl (by first | exact runs0 | exact runs1 rfl) Ext.refl rfl rfl rfl ?_; apply Exists.intro; refine ⟨?_, ?_⟩; · (go_simp; rfl)) | (refine wpY_move rfl rfl (by first | exact runs0 | exact runs1 rfl) Ext.refl rfl rfl rfl (fun _ _ _ h _ => h) ?_) | (refine wpY_val rfl rfl (by first | exact runs0 | exact runs1 rfl) Ext.refl rfl ?_; apply Exists.intro; refine ⟨?_, ?_⟩; · (intro a w' hR; intro h1; (first | (have e1 : _ = _ := h1) | skip); intro h2; (first | (have e2 : _ = _ := h2) | skip); go_simp; rfl)) | (refine wpY_val rfl rfl (by first | exact runs0 | exact runs1 rfl) Ext.refl rfl ?_; apply Exists.intro; refine ⟨?_, ?_⟩; · (intro a w' hR; intro h1; (first | (have e1 : _ = _ := h1) | skip); go_simp; rfl)) | (refine wpY_val rfl rfl (by first | exact runs0 | exact runs1 rfl) Ext.refl rfl ?_; apply Exists.intro; refine ⟨?_, ?_⟩; · (intro a w' hR; go_simp; rfl)) | (refine wpY_val rfl rfl (by first | exact runs0 | exact runs1 rfl) Ext.refl rfl ?_; apply Exists.intro; refine ⟨?_, ?_⟩; · (intro a w' hR; intro h1; (first | (have e1 : _ = _ := h1) | skip); intro h2; (first | (have e2 : _ = _ := h2) | skip); intro h3; (first | (have e3 : _ = _ := h3) | skip); go_simp; rfl)) | (refine wpY_skip rfl rfl (by first | exact .inl rfl | exact .inr rfl) ?_))
            refine wpY_val rfl rfl (by first | exact runs0 | exact runs1 rfl) Ext.refl rfl ?_; apply Exists.intro; refine ⟨?_, ?_⟩
            · intro a w' hR h1
              have e1 : _ = _ := h1
              have hl0 := hR.cells _ _ c0
              have hl1 := hR.cells _ _ c1
              go_simp
              rfl
            repeat (first | (refine wpY_move0 rfl rfl (by first | exact runs0 | exact runs1 rfl) Ext.refl rfl rfl rfl ?_; apply Exists.intro; refine ⟨?_, ?_⟩; · (go_simp; rfl)) | (refine wpY_move rfl rfl (by first | exact runs0 | exact runs1 rfl) Ext.refl rfl rfl rfl (fun _ _ _ h _ => h) ?_) | (refine wpY_val rfl rfl (by first | exact runs0 | exact runs1 rfl) Ext.refl rfl ?_; apply Exists.intro; refine ⟨?_, ?_⟩; · (intro a w' hR; intro h1; (first | (have e1 : _ = _ := h1) | skip); intro h2; (first | (have e2 : _ = _ := h2) | skip); go_simp; rfl)) | (refine wpY_val rfl rfl (by first | exact runs0 | exact runs1 rfl) Ext.refl rfl ?_; apply Exists.intro; refine ⟨?_, ?_⟩; · (intro a w' hR; intro h1; (first | (have e1 : _ = _ := h1) | skip); go_simp; rfl)) | (refine wpY_val rfl rfl (by first | exact runs0 | exact runs1 rfl) Ext.refl rfl ?_; apply Exists.intro; refine ⟨?_, ?_⟩; · (intro a w' hR; go_simp; rfl)) | (refine wpY_val rfl rfl (by first | exact runs0 | exact runs1 rfl) Ext.refl rfl ?_; apply Exists.intro; refine ⟨?_, ?_⟩; · (intro a w' hR; intro h1; (first | (have e1 : _ = _ := h1) | skip); intro h2; (first | (have e2 : _ = _ := h2) | skip); intro h3; (first | (have e3 : _ = _ := h3) | skip); go_simp; rfl)) | (refine wpY_skip rfl rfl (by first | exact .inl rfl | exact .inr rfl) ?_))
            refine wpY_val rfl rfl (by first | exact runs0 | exact runs1 rfl) Ext.refl rfl ?_; apply Exists.intro; refine ⟨?_, ?_⟩
            · intro a w' hR h1
              have e1 : _ = _ := h1
              have hl0 := hR.cells _ _ c2
              have hl1 := hR.cells _ _ c3
              go_simp
              rfl
            repeat (first | (refine wpY_move0 rfl rfl (by first | exact runs0 | exact runs1 rfl) Ext.refl rfl rfl rfl ?_; apply Exists.intro; refine ⟨?_, ?_⟩; · (go_simp; rfl)) | (refine wpY_move rfl rfl (by first | exact runs0 | exact runs1 rfl) Ext.refl rfl rfl rfl (fun _ _ _ h _ => h) ?_) | (refine wpY_val rfl rfl (by first | exact runs0 | exact runs1 rfl) Ext.refl rfl ?_; apply Exists.intro; refine ⟨?_, ?_⟩; · (intro a w' hR; intro h1; (first | (have e1 : _ = _ := h1) | skip); intro h2; (first | (have e2 : _ = _ := h2) | skip); go_simp; rfl)) | (refine wpY_val rfl rfl (by first | exact runs0 | exact runs1 rfl) Ext.refl rfl ?_; apply Exists.intro; refine ⟨?_, ?_⟩; · (intro a w' hR; intro h1; (first | (have e1 : _ = _ := h1) | skip); go_simp; rfl)) | (refine wpY_val rfl rfl (by first | exact runs0 | exact runs1 rfl) Ext.refl rfl ?_; apply Exists.intro; refine ⟨?_, ?_⟩; · (intro a w' hR; go_simp; rfl)) | (refine wpY_val rfl rfl (by first | exact runs0 | exact runs1 rfl) Ext.refl rfl ?_; apply Exists.intro; refine ⟨?_, ?_⟩; · (intro a w' hR; intro h1; (first | (have e1 : _ = _ := h1) | skip); intro h2; (first | (have e2 : _ = _ := h2) | skip); intro h3; (first | (have e3 : _ = _ := h3) | skip); go_simp; rfl)) | (refine wpY_skip rfl rfl (by first | exact .inl rfl | exact .inr rfl) ?_))
            refine wpY_val rfl rfl (by first | exact runs0 | exact runs1 rfl) Ext.refl rfl ?_; apply Exists.intro; refine ⟨?_, ?_⟩
            · intro a w' hR h1
              have e1 : _ = _ := h1
              have hl0 := hR.cells _ _ c4
              go_simp
              rfl
            repeat (first | (refine wpY_move0 rfl rfl (by first | exact runs0 | exact runs1 rfl) Ext.refl rfl rfl rfl ?_; apply Exists.intro; refine ⟨?_, ?_⟩; · (go_simp; rfl)) | (refine wpY_move rfl rfl (by first | exact runs0 | exact runs1 rfl) Ext.refl rfl rfl rfl (fun _ _ _ h _ => h) ?_) | (refine wpY_val rfl rfl (by first | exact runs0 | exact runs1 rfl) Ext.refl rfl ?_; apply Exists.intro; refine ⟨?_, ?_⟩; · (intro a w' hR; intro h1; (first | (have e1 : _ = _ := h1) | skip); intro h2; (first | (have e2 : _ = _ := h2) | skip); go_simp; rfl)) | (refine wpY_val rfl rfl (by first | exact runs0 | exact runs1 rfl) Ext.refl rfl ?_; apply Exists.intro; refine ⟨?_, ?_⟩; · (intro a w' hR; intro h1; (first | (have e1 : _ = _ := h1) | skip); go_simp; rfl)) | (refine wpY_val rfl rfl (by first | exact runs0 | exact runs1 rfl) Ext.refl rfl ?_; apply Exists.intro; refine ⟨?_, ?_⟩; · (intro a w' hR; go_simp; rfl)) | (refine wpY_val rfl rfl (by first | exact runs0 | exact runs1 rfl) Ext.refl rfl ?_; apply Exists.intro; refine ⟨?_, ?_⟩; · (intro a w' hR; intro h1; (first | (have e1 : _ = _ := h1) | skip); intro h2; (first | (have e2 : _ = _ := h2) | skip); intro h3; (first | (have e3 : _ = _ := h3) | skip); go_simp; rfl)) | (refine wpY_skip rfl rfl (by first | exact .inl rfl | exact .inr rfl) ?_))
            refine wpY_eff (fun v _ => v = .int .i64 0) (fun w => CM w g b M) rfl (by first | exact runs0 | exact runs1 rfl) rfl (by first | exact mono_eq | exact (fun _ _ _ h k => Rd.ext h k) | exact (fun _ _ _ h k => RB.ext h k) | exact (fun _ _ _ h k => OB.ext h k) | exact (fun _ _ _ h k => RB.extS h k) | exact (fun _ _ _ h k => Rd.ext h (GrownW.ext k)) | exact (fun _ _ _ h k => RP.ext h k) | exact (fun _ _ _ h k => OP.ext h k) | exact (fun _ _ _ h k => Rd.extV h k) | exact (fun _ _ _ h k => RB.extV h k) | exact (fun _ _ _ h k => E0.ext h k) | exact (fun _ _ _ h k => O0.ext h k) | exact (fun _ _ _ h k => RE.ext h k) | exact (fun _ _ _ h k => RE.extD h k) | exact (fun _ _ _ h _ => h)) (fun _ _ x y => x.ext y) ?_ ?_
            · intro a w' hR hS h1 h2 h3 h4 K hK
              have e1 : _ = _ := h1
              have e2 : _ = _ := h2
              have e3 : _ = _ := h3
              have e4 : _ = _ := h4
              go_simp
              refine (HA.out w' hS).mono ?_
              rintro e w2 ⟨rfl, hc, he⟩
              exact hK _ _ he hc rfl
            repeat (first | (refine wpY_move0 rfl rfl (by first | exact runs0 | exact runs1 rfl) Ext.refl rfl rfl rfl ?_; apply Exists.intro; refine ⟨?_, ?_⟩; · (go_simp; rfl)) | (refine wpY_move rfl rfl (by first | exact runs0 | exact runs1 rfl) Ext.refl rfl rfl rfl (fun _ _ _ h _ => h) ?_) | (refine wpY_val rfl rfl (by first | exact runs0 | exact runs1 rfl) Ext.refl rfl ?_; apply Exists.intro; refine ⟨?_, ?_⟩; · (intro a w' hR; intro h1; (first | (have e1 : _ = _ := h1) | skip); intro h2; (first | (have e2 : _ = _ := h2) | skip); go_simp; rfl)) | (refine wpY_val rfl rfl (by first | exact runs0 | exact runs1 rfl) Ext.refl rfl ?_; apply Exists.intro; refine ⟨?_, ?_⟩; · (intro a w' hR; intro h1; (first | (have e1 : _ = _ := h1) | skip); go_simp; rfl)) | (refine wpY_val rfl rfl (by first | exact runs0 | exact runs1 rfl) Ext.refl rfl ?_; apply Exists.intro; refine ⟨?_, ?_⟩; · (intro a w' hR; go_simp; rfl)) | (refine wpY_val rfl rfl (by first | exact runs0 | exact runs1 rfl) Ext.refl rfl ?_; apply Exists.intro; refine ⟨?_, ?_⟩; · (intro a w' hR; intro h1; (first | (have e1 : _ = _ := h1) | skip); intro h2; (first | (have e2 : _ = _ := h2) | skip); intro h3; (first | (have e3 : _ = _ := h3) | skip); go_simp; rfl)) | (refine wpY_skip rfl rfl (by first | exact .inl rfl | exact .inr rfl) ?_))
            refine wpY_done ?_
            intro w7 hx7 hS7
            iterate 19 (rintro _ rfl)
            dsimp only [FinV]
            go_simp
            have hx7 : ExtM b wB w7 := hx7
            have HC7 := Lib.hid hS7
            have HE7 := Lib.hid (HE6.out.trans hx7)
            clear hx7 hS7
            go_wp2
            exact ⟨⟨j + 1, M, by omega, by go_num, HC7.out, HD7.out, HE7.out⟩, by simp [intOf]; omega⟩
          · obtain rfl : j = D.length := by omega
            have g3 : ¬ (D.length : Int) < (D.length : Int) := by omega
            rw [List.drop_length] at hd2
            have hL2 := hd2.none
            subst hL2
            have HD6 := Lib.hid (HD5.out.extM HE6.out HNE.out.1 HNE.out.2)
            have HW6 := Lib.hid (HW5.out.andM HE6.out HSZ.out)
            clear hc2 hd2 hext2
            have hgd := HD5.out.good
            go_wp2_with fail
            refine (stamps_any wB gd bd L HD6.out (by omega)).mono ?_
            rintro e w7 ⟨v7, rfl, ho7, hx7⟩
            have HR7 := Lib.hid ho7.re
            obtain ⟨A7, c7, rfl⟩ := ho7.re.form
            have HC7 := Lib.hid (HC6.out.ext hx7)
            have HD7 := Lib.hid (HD6.out.ext hx7)
            have HW7 := Lib.hid (HW6.out.trans hx7)
            clear ho7 hx7
            go_wp2
            go_loopw [8, 10] (fun o iv wr => ∃ i : Nat, i ≤ L.length ∧ iv = .int .i64 i ∧ o = .int .i64 (Cnt.tot (L.take i)) ∧ w7 = wr) (fun _ iv _ => L.length - (intOf iv).toNat)
            case atStart => exact ⟨0, Nat.zero_le _, rfl, rfl, rfl⟩
            case round =>
              obtain ⟨i, hi, rfl, rfl, rfl⟩ := hrel
              by_cases hil : i < L.length
              · have g5 : (i : Int) < (L.length : Int) := by omega
                have g6 : 0 ≤ (i : Int) := by omega
                obtain ⟨bX, oX, hAX, c0, c1, c2, c3, c4⟩ := re5 HR7.out hil
                subst hAX
                have HST := Lib.hid (tot_s L i hil)
                obtain ⟨hb3, hb4⟩ := tot_lim hgd (by omega) i
                obtain ⟨hb5, hb6⟩ := hgd.num _ (List.getElem_mem hil)
                generalize Cnt.tot (L.take i) = z at *
                generalize L[i] = x at *
                obtain ⟨⟨⟨x1, x2⟩, x3, x4⟩, x5⟩ := x
                dsimp only at *
                go_wp2
                exact ⟨⟨i + 1, by omega, by go_num, by rw [HST.out], by first | trivial | rfl⟩, by simp [intOf]; omega⟩
              · obtain rfl : i = L.length := by omega
                have g5 : ¬ (L.length : Int) < (L.length : Int) := by omega
                rw [List.take_length]
                have HT := Lib.hid (fun w h => total_any w gd bd L h (by omega))
                generalize Cnt.tot L = z at *
                go_wp2_with fail
                refine (stamps_any w7 g b [] HC7.out (by simp)).mono ?_
                rintro e w8 ⟨v8, rfl, ho8, hx8⟩
                obtain ⟨A8, c8, rfl⟩ := ho8.re.form
                have HC8 := Lib.hid (HC7.out.ext hx8)
                have HD8 := Lib.hid (HD7.out.ext hx8)
                have HW8 := Lib.hid (HW7.out.trans hx8)
                clear ho8 hx8
                go_wp2_with fail
                refine (total_any w8 g b [] HC8.out (by simp)).mono ?_
                rintro e w9 ⟨rfl, hx9⟩
                have HD9 := Lib.hid (HD8.out.ext hx9)
                have HW9 := Lib.hid (HW8.out.trans hx9)
                clear hx9
                rw [show Cnt.tot [] = 0 from rfl]
                go_wp2_with fail
                refine (HT.out w9 HD9.out).mono ?_
                rintro e w10 ⟨rfl, hx10⟩
                go_wp2
                go_ret
                exact ⟨by simp, HW9.out.trans hx10⟩
      · have g1 : ¬ (k : Int) < (l.length : Int) := by omega
        go_wp2_with fail
        refine (clone_any wA g b L HC.out).mono ?_
        rintro e w5 ⟨gd, bd, rfl, hgd, hbd, hcd, hx5⟩
        have hlt3 := HC.out.lt
        have HNE := Lib.hid (show gd ≠ b ∧ bd ≠ b by omega)
        have HC5 := Lib.hid (HC.out.ext hx5)
        have HD5 := Lib.hid hcd
        have HRD := Lib.hid (HO.out.re.ext hx5)
        have HW5 := Lib.hid (HW.out.trans hx5)
        clear hx5 hcd hgd hbd hlt3 HC HE HW
        go_wp2
        go_loopw [7] (fun iv wr => ∃ (j : Nat) (L2 : List Cnt.S), j ≤ D.length ∧ iv = .int .i64 j ∧ CM wr g b L2 ∧ Cnt.Done L2 (D.drop j) ∧ ExtM b w5 wr) (fun iv _ => D.length - (intOf iv).toNat)
        case atStart => exact ⟨0, L, Nat.zero_le _, rfl, HC5.out, HD.out, ExtM.refl _ _⟩
        case round =>
          obtain ⟨j, L2, hj, rfl, hc2, hd2, hext2⟩ := hrel
          rename World => wB
          have HC6 := Lib.hid hc2
          have HE6 := Lib.hid hext2
          by_cases hjl : j < D.length
          · have g3 : (j : Int) < (D.length : Int) := by omega
            have g4 : 0 ≤ (j : Int) := by omega
            obtain ⟨bX, oX, hAX, c0, c1, c2, c3, c4⟩ := re5 (Rd.extM HRD.out hext2 : RE wB _ D) hjl
            subst hAX
            rw [List.drop_eq_getElem_cons hjl] at hd2
            generalize D[j] = y at *
            obtain ⟨⟨⟨y1, y2⟩, y3, y4⟩, y5⟩ := y
            obtain ⟨h51, h52⟩ := done_x hd2
            obtain ⟨h53, h54⟩ := hd2.take
            have hwn : IntKind.i64.wrap (-y5) = -y5 := IntWalk.i64_in _ (by dsimp only at h51 h52; omega)
            dsimp only at *
            have HA := Lib.hid (fun w h => add_any w g b L2 h ((y1, y2), y3, y4) (-y5))
            rw [h53] at HA
            have HD7 := Lib.hid h54
            generalize (Cnt.add L2 ((y1, y2), y3, y4) (-y5)).1 = M at *
            clear hc2 hd2 hext2 h53 h54
            go_wp2
            refine wp_regionY [86] [] Ext (ExtM b) (fun w => CM w g b L2) (by kernel_rfl) (by rfl) (by rfl) (by kernel_rfl) (by kernel_rfl) (by kernel_rfl) (fun _ _ _ x y => x.trans y) (ExtM.refl b) (fun _ _ x => ExtM.of x) (Ext.refl _).drew (fun _ _ x y => x.ext y) (HC6.out) ?_
            repeat (first | (refine wpY_move0 rfl rfl (by first | exact runs0 | exact runs1 rfl) Ext.refl rfl rfl rfl ?_; apply Exists.intro; refine ⟨?_, ?_⟩; · (go_simp; rfl)) | (refine wpY_move rfl rfl (by first | exact runs0 | exact runs1 rfl) Ext.refl rfl rfl rfl (fun _ _ _ h _ => h) ?_) | (refine wpY_val rfl rfl (by first | exact runs0 | exact runs1 rfl) Ext.refl rfl ?_; apply Exists.intro; refine ⟨?_, ?_⟩; · (intro a w' hR; intro h1; (first | (have e1 : _ = _ := h1) | skip); intro h2; (first | (have e2 : _ = _ := h2) | skip); go_simp; rfl)) | (refine wpY_val rfl rfl (by first | exact runs0 | exact runs1 rfl) Ext.refl rfl ?_; apply Exists.intro; refine ⟨?_, ?_⟩; · (intro a w' hR; intro h1; (first | (have e1 : _ = _ := h1) | skip); go_simp; rfl)) | (refine wpY_val rfl rfl (by first | exact runs0 | exact runs1 rfl) Ext.refl rfl ?_; apply Exists.intro; refine ⟨?_, ?_⟩; · (intro a w' hR; go_simp; rfl)) | (refine wpY_val rfl rfl (by first | exact runs0 | exact runs1 rfl) Ext.refl rfl ?_; apply Exists.intro; refine ⟨?_, ?_⟩; · (intro a w' hR; intro h1; (first | (have e1 : _ = _ := h1) | skip); intro h2; (first | (have e2 : _ = _ := h2) | skip); intro h3; (first | (have e3 : _ = _ := h3) | skip); go_simp; rfl)) | (refine wpY_skip rfl rfl (by first | exact .inl rfl | exact .inr rfl) ?_))
            refine wpY_val rfl rfl (by first | exact runs0 | exact runs1 rfl) Ext.refl rfl ?_; apply Exists.intro; refine ⟨?_, ?_⟩
            · intro a w' hR h1
              have e1 : _ = _ := h1
              have hl0 := hR.cells _ _ c0
              have hl1 := hR.cells _ _ c1
              go_simp
              rfl
            repeat (first | (refine wpY_move0 rfl rfl (by first | exact runs0 | exact runs1 rfl) Ext.refl rfl rfl rfl ?_; apply Exists.intro; refine ⟨?_, ?_⟩; · (go_simp; rfl)) | (refine wpY_move rfl rfl (by first | exact runs0 | exact runs1 rfl) Ext.refl rfl rfl rfl (fun _ _ _ h _ => h) ?_) | (refine wpY_val rfl rfl (by first | exact runs0 | exact runs1 rfl) Ext.refl rfl ?_; apply Exists.intro; refine ⟨?_, ?_⟩; · (intro a w' hR; intro h1; (first | (have e1 : _ = _ := h1) | skip); intro h2; (first | (have e2 : _ = _ := h2) | skip); go_simp; rfl)) | (refine wpY_val rfl rfl (by first | exact runs0 | exact runs1 rfl) Ext.refl rfl ?_; apply Exists.intro; refine ⟨?_, ?_⟩; · (intro a w' hR; intro h1; (first | (have e1 : _ = _ := h1) | skip); go_simp; rfl)) | (refine wpY_val rfl rfl (by first | exact runs0 | exact runs1 rfl) Ext.refl rfl ?_; apply Exists.intro; refine ⟨?_, ?_⟩; · (intro a w' hR; go_simp; rfl)) | (refine wpY_val rfl rfl (by first | exact runs0 | exact runs1 rfl) Ext.refl rfl ?_; apply Exists.intro; refine ⟨?_, ?_⟩; · (intro a w' hR; intro h1; (first | (have e1 : _ = _ := h1) | skip); intro h2; (first | (have e2 : _ = _ := h2) | skip); intro h3; (first | (have e3 : _ = _ := h3) | skip); go_simp; rfl)) | (refine wpY_skip rfl rfl (by first | exact .inl rfl | exact .inr rfl) ?_))
            refine wpY_val rfl rfl (by first | exact runs0 | exact runs1 rfl) Ext.refl rfl ?_; apply Exists.intro; refine ⟨?_, ?_⟩
            · intro a w' hR h1
              have e1 : _ = _ := h1
              have hl0 := hR.cells _ _ c2
              have hl1 := hR.cells _ _ c3
              go_simp
              rfl
            repeat (first | (refine wpY_move0 rfl rfl (by first | exact runs0 | exact runs1 rfl) Ext.refl rfl rfl rfl ?_; apply Exists.intro; refine ⟨?_, ?_⟩; · (go_simp; rfl)) | (refine wpY_move rfl rfl (by first | exact runs0 | exact runs1 rfl) Ext.refl rfl rfl rfl (fun _ _ _ h _ => h) ?_) | (refine wpY_val rfl rfl (by first | exact runs0 | exact runs1 rfl) Ext.refl rfl ?_; apply Exists.intro; refine ⟨?_, ?_⟩; · (intro a w' hR; intro h1; (first | (have e1 : _ = _ := h1) | skip); intro h2; (first | (have e2 : _ = _ := h2) | skip); go_simp; rfl)) | (refine wpY_val rfl rfl (by first | exact runs0 | exact runs1 rfl) Ext.refl rfl ?_; apply Exists.intro; refine ⟨?_, ?_⟩; · (intro a w' hR; intro h1; (first | (have e1 : _ = _ := h1) | skip); go_simp; rfl)) | (refine wpY_val rfl rfl (by first | exact runs0 | exact runs1 rfl) Ext.refl rfl ?_; apply Exists.intro; refine ⟨?_, ?_⟩; · (intro a w' hR; go_simp; rfl)) | (refine wpY_val rfl rfl (by first | exact runs0 | exact runs1 rfl) Ext.refl rfl ?_; apply Exists.intro; refine ⟨?_, ?_⟩; · (intro a w' hR; intro h1; (first | (have e1 : _ = _ := h1) | skip); intro h2; (first | (have e2 : _ = _ := h2) | skip); intro h3; (first | (have e3 : _ = _ := h3) | skip); go_simp; rfl)) | (refine wpY_skip rfl rfl (by first | exact .inl rfl | exact .inr rfl) ?_))
            refine wpY_val rfl rfl (by first | exact runs0 | exact runs1 rfl) Ext.refl rfl ?_; apply Exists.intro; refine ⟨?_, ?_⟩
            · intro a w' hR h1
              have e1 : _ = _ := h1
              have hl0 := hR.cells _ _ c4
              go_simp
              rfl
            repeat (first | (refine wpY_move0 rfl rfl (by first | exact runs0 | exact runs1 rfl) Ext.refl rfl rfl rfl ?_; apply Exists.intro; refine ⟨?_, ?_⟩; · (go_simp; rfl)) | (refine wpY_move rfl rfl (by first | exact runs0 | exact runs1 rfl) Ext.refl rfl rfl rfl (fun _ _ _ h _ => h) ?_) | (refine wpY_val rfl rfl (by first | exact runs0 | exact runs1 rfl) Ext.refl rfl ?_; apply Exists.intro; refine ⟨?_, ?_⟩; · (intro a w' hR; intro h1; (first | (have e1 : _ = _ := h1) | skip); intro h2; (first | (have e2 : _ = _ := h2) | skip); go_simp; rfl)) | (refine wpY_val rfl rfl (by first | exact runs0 | exact runs1 rfl) Ext.refl rfl ?_; apply Exists.intro; refine ⟨?_, ?_⟩; · (intro a w' hR; intro h1; (first | (have e1 : _ = _ := h1) | skip); go_simp; rfl)) | (refine wpY_val rfl rfl (by first | exact runs0 | exact runs1 rfl) Ext.refl rfl ?_; apply Exists.intro; refine ⟨?_, ?_⟩; · (intro a w' hR; go_simp; rfl)) | (refine wpY_val rfl rfl (by first | exact runs0 | exact runs1 rfl) Ext.refl rfl ?_; apply Exists.intro; refine ⟨?_, ?_⟩; · (intro a w' hR; intro h1; (first | (have e1 : _ = _ := h1) | skip); intro h2; (first | (have e2 : _ = _ := h2) | skip); intro h3; (first | (have e3 : _ = _ := h3) | skip); go_simp; rfl)) | (refine wpY_skip rfl rfl (by first | exact .inl rfl | exact .inr rfl) ?_))
            refine wpY_eff (fun v _ => v = .int .i64 0) (fun w => CM w g b M) rfl (by first | exact runs0 | exact runs1 rfl) rfl (by first | exact mono_eq | exact (fun _ _ _ h k => Rd.ext h k) | exact (fun _ _ _ h k => RB.ext h k) | exact (fun _ _ _ h k => OB.ext h k) | exact (fun _ _ _ h k => RB.extS h k) | exact (fun _ _ _ h k => Rd.ext h (GrownW.ext k)) | exact (fun _ _ _ h k => RP.ext h k) | exact (fun _ _ _ h k => OP.ext h k) | exact (fun _ _ _ h k => Rd.extV h k) | exact (fun _ _ _ h k => RB.extV h k) | exact (fun _ _ _ h k => E0.ext h k) | exact (fun _ _ _ h k => O0.ext h k) | exact (fun _ _ _ h k => RE.ext h k) | exact (fun _ _ _ h k => RE.extD h k) | exact (fun _ _ _ h _ => h)) (fun _ _ x y => x.ext y) ?_ ?_
            · intro a w' hR hS h1 h2 h3 h4 K hK
              have e1 : _ = _ := h1
              have e2 : _ = _ := h2
              have e3 : _ = _ := h3
              have e4 : _ = _ := h4
              go_simp
              refine (HA.out w' hS).mono ?_
              rintro e w2 ⟨rfl, hc, he⟩
              exact hK _ _ he hc rfl
            repeat (first | (refine wpY_move0 rfl rfl (by first | exact runs0 | exact runs1 rfl) Ext.refl rfl rfl rfl ?_; apply Exists.intro; refine ⟨?_, ?_⟩; · (go_simp; rfl)) | (refine wpY_move rfl rfl (by first | exact runs0 | exact runs1 rfl) Ext.refl rfl rfl rfl (fun _ _ _ h _ => h) ?_) | (refine wpY_val rfl rfl (by first | exact runs0 | exact runs1 rfl) Ext.refl rfl ?_; apply Exists.intro; refine ⟨?_, ?_⟩; · (intro a w' hR; intro h1; (first | (have e1 : _ = _ := h1) | skip); intro h2; (first | (have e2 : _ = _ := h2) | skip); go_simp; rfl)) | (refine wpY_val rfl rfl (by first | exact runs0 | exact runs1 rfl) Ext.refl rfl ?_; apply Exists.intro; refine ⟨?_, ?_⟩; · (intro a w' hR; intro h1; (first | (have e1 : _ = _ := h1) | skip); go_simp; rfl)) | (refine wpY_val rfl rfl (by first | exact runs0 | exact runs1 rfl) Ext.refl rfl ?_; apply Exists.intro; refine ⟨?_, ?_⟩; · (intro a w' hR; go_simp; rfl)) | (refine wpY_val rfl rfl (by first | exact runs0 | exact runs1 rfl) Ext.refl rfl ?_; apply Exists.intro; refine ⟨?_, ?_⟩; · (intro a w' hR; intro h1; (first | (have e1 : _ = _ := h1) | skip); intro h2; (first | (have e2 : _ = _ := h2) | skip); intro h3; (first | (have e3 : _ = _ := h3) | skip); go_simp; rfl)) | (refine wpY_skip rfl rfl (by first | exact .inl rfl | exact .inr rfl) ?_))
            refine wpY_done ?_
            intro w7 hx7 hS7
            iterate 19 (rintro _ rfl)
            dsimp only [FinV]
            go_simp
            have hx7 : ExtM b wB w7 := hx7
            have HC7 := Lib.hid hS7
            have HE7 := Lib.hid (HE6.out.trans hx7)
            clear hx7 hS7
            go_wp2
            exact ⟨⟨j + 1, M, by omega, by go_num, HC7.out, HD7.out, HE7.out⟩, by simp [intOf]; omega⟩
          · obtain rfl : j = D.length := by omega
            have g3 : ¬ (D.length : Int) < (D.length : Int) := by omega
            rw [List.drop_length] at hd2
            have hL2 := hd2.none
            subst hL2
            have HD6 := Lib.hid (HD5.out.extM HE6.out HNE.out.1 HNE.out.2)
            have HW6 := Lib.hid (HW5.out.andM HE6.out HSZ.out)
            clear hc2 hd2 hext2
            have hgd := HD5.out.good
            go_wp2_with fail
            refine (stamps_any wB gd bd L HD6.out (by omega)).mono ?_
            rintro e w7 ⟨v7, rfl, ho7, hx7⟩
            have HR7 := Lib.hid ho7.re
            obtain ⟨A7, c7, rfl⟩ := ho7.re.form
            have HC7 := Lib.hid (HC6.out.ext hx7)
            have HD7 := Lib.hid (HD6.out.ext hx7)
            have HW7 := Lib.hid (HW6.out.trans hx7)
            clear ho7 hx7
            go_wp2
            go_loopw [8, 10] (fun o iv wr => ∃ i : Nat, i ≤ L.length ∧ iv = .int .i64 i ∧ o = .int .i64 (Cnt.tot (L.take i)) ∧ w7 = wr) (fun _ iv _ => L.length - (intOf iv).toNat)
            case atStart => exact ⟨0, Nat.zero_le _, rfl, rfl, rfl⟩
            case round =>
              obtain ⟨i, hi, rfl, rfl, rfl⟩ := hrel
              by_cases hil : i < L.length
              · have g5 : (i : Int) < (L.length : Int) := by omega
                have g6 : 0 ≤ (i : Int) := by omega
                obtain ⟨bX, oX, hAX, c0, c1, c2, c3, c4⟩ := re5 HR7.out hil
                subst hAX
                have HST := Lib.hid (tot_s L i hil)
                obtain ⟨hb3, hb4⟩ := tot_lim hgd (by omega) i
                obtain ⟨hb5, hb6⟩ := hgd.num _ (List.getElem_mem hil)
                generalize Cnt.tot (L.take i) = z at *
                generalize L[i] = x at *
                obtain ⟨⟨⟨x1, x2⟩, x3, x4⟩, x5⟩ := x
                dsimp only at *
                go_wp2
                exact ⟨⟨i + 1, by omega, by go_num, by rw [HST.out], by first | trivial | rfl⟩, by simp [intOf]; omega⟩
              · obtain rfl : i = L.length := by omega
                have g5 : ¬ (L.length : Int) < (L.length : Int) := by omega
                rw [List.take_length]
                have HT := Lib.hid (fun w h => total_any w gd bd L h (by omega))
                generalize Cnt.tot L = z at *
                go_wp2_with fail
                refine (stamps_any w7 g b [] HC7.out (by simp)).mono ?_
                rintro e w8 ⟨v8, rfl, ho8, hx8⟩
                obtain ⟨A8, c8, rfl⟩ := ho8.re.form
                have HC8 := Lib.hid (HC7.out.ext hx8)
                have HD8 := Lib.hid (HD7.out.ext hx8)
                have HW8 := Lib.hid (HW7.out.trans hx8)
                clear ho8 hx8
                go_wp2_with fail
                refine (total_any w8 g b [] HC8.out (by simp)).mono ?_
                rintro e w9 ⟨rfl, hx9⟩
                have HD9 := Lib.hid (HD8.out.ext hx9)
                have HW9 := Lib.hid (HW8.out.trans hx9)
                clear hx9
                rw [show Cnt.tot [] = 0 from rfl]
                go_wp2_with fail
                refine (HT.out w9 HD9.out).mono ?_
                rintro e w10 ⟨rfl, hx10⟩
                go_wp2
                go_ret
                exact ⟨by simp, HW9.out.trans hx10⟩
theorem countUndoes_law (w : World) (v : Value) (l : List Cnt.S) (hv : RE w v l) : Calls Try.prog 4 #[v] w fun e w' => e = .returned (.bool true) ∧ Ext w w' := undoes_any v l w hv
end Go.Proofs.Ytngdlahgihbmhaa
