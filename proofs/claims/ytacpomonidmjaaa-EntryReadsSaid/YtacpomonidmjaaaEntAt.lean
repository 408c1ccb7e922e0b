/-
  Entries at a moment; entries whose moments a front covers.
-/
import Derived.Test.YtacpomonidmjaaaEntDel
import Derived.Test.YtacpomonidmjaaaMomCov
namespace Go.Ox.Ent
/-- the records at a moment -/
def atL (l : List E) (m : Int × Int) : List (Int × Int) := (l.filter fun x => decide (x.1 = m)).map (·.2)
theorem atL_s (l : List E) (m : Int × Int) {k : Nat} (h : k < l.length) : atL (l.take (k + 1)) m = atL (l.take k) m ++ (if l[k].1 = m then [l[k].2] else []) := by
  unfold atL
  rw [List.take_succ_eq_append_getElem h, List.filter_append, List.map_append]
  congr 1
  by_cases q : l[k].1 = m <;> simp [q]
theorem atL_len (l : List E) (m : Int × Int) (k : Nat) : (atL (l.take k) m).length ≤ k := by
  unfold atL
  rw [List.length_map]
  have := List.length_filter_le (fun x : E => decide (x.1 = m)) (l.take k)
  rw [List.length_take] at this
  omega
/-- the entries whose moments are covered -/
def bhd (l : List E) (f : List (Int × Int)) : List E := l.filter fun x => Mom.covers f x.1
theorem bhd_s (l : List E) (f : List (Int × Int)) {k : Nat} (h : k < l.length) : bhd (l.take (k + 1)) f = bhd (l.take k) f ++ (if Mom.covers f l[k].1 = true then [l[k]] else []) := by
  unfold bhd
  rw [List.take_succ_eq_append_getElem h, List.filter_append]
  congr 1
  by_cases q : Mom.covers f l[k].1 = true <;> simp [q]
theorem bhd_len (l : List E) (f : List (Int × Int)) (k : Nat) : (bhd (l.take k) f).length ≤ k := by
  unfold bhd
  have := List.length_filter_le (fun x : E => Mom.covers f x.1) (l.take k)
  rw [List.length_take] at this
  omega
end Go.Ox.Ent
namespace Go.Proofs.Ytacpomonidmjaaa
open Go.RowKit Go.Ox Go.Shelf
attribute [local irreducible] OP RP
set_option linter.unusedVariables false
set_option linter.unusedSimpArgs false

set_option maxRecDepth 100000 in
set_option maxHeartbeats 2000000 in
theorem at_any (v : Value) (l : List Ent.E) (m : Int × Int) (w : World) (hv : RE w v l) (hl : l.length ≤ 1000000) :
    Calls Try.prog 26 #[v, mV m] w fun e w' => ∃ u, e = .returned u ∧ OP 26 w.heap.size w' u (Ent.atL l m) ∧ Ext w w' := by
  obtain ⟨A, c, rfl⟩ := hv.form
  obtain ⟨m1, m2⟩ := m
  have hx0 := (Ext.refl w).alloc (.cells #[.int .i64 m1, .int .i64 m2] 24)
  have HX0 := Lib.hid hx0
  have HV := Lib.hid (hv.ext hx0)
  have HB := Lib.hid (Blk.new w 24 #[.int .i64 m1, .int .i64 m2])
  have hE := Mo.eqM
  have hG := Mo.guardM
  have HL := Lib.hid hl
  clear hv hx0
  go_enter Try.func26, Try.ntmps26
  go_wp2
  have HSZ := Lib.hid (HX0.out.size)
  generalize hp : w.heap.size = p at *
  have HP := Lib.hid hp
  clear hp
  generalize w.alloc (.cells #[.int .i64 m1, .int .i64 m2] 24) = w0 at *
  go_loopw [5, 10] (fun o iv wr => ∃ k : Nat, k ≤ l.length ∧ iv = .int .i64 k ∧ OP 26 w0.heap.size wr o (Ent.atL (l.take k) (m1, m2)) ∧ Ext w0 wr) (fun _ iv _ => l.length - (intOf iv).toNat)
  case atStart => exact ⟨0, Nat.zero_le _, rfl, OP.nilS _ _ _, Ext.refl _⟩
  case round =>
    obtain ⟨k, hk, rfl, ho, hext⟩ := hrel
    have HE := Lib.hid hext
    have HO := Lib.hid ho
    obtain ⟨AO, cO, rfl⟩ := ho.rp.form
    have hle := Ent.atL_len l (m1, m2) k
    have HOUT := Lib.hid (show (Ent.atL (l.take k) (m1, m2)).length ≤ 1000000 by omega)
    clear ho hle
    by_cases hlt : k < l.length
    · have g1 : (k : Int) < (l.length : Int) := by omega
      have g0 : 0 ≤ (k : Int) := by omega
      have hkb : k ≤ 1000000 := by omega
      have HLT := Lib.hid hlt
      obtain ⟨bA, oA, rfl, c0, c1, c2, c3⟩ := re4 (HV.out.ext hext) hlt
      have HS := Lib.hid (Ent.atL_s l (m1, m2) hlt)
      have d0 : wr.cell? ⟨p, 0, none⟩ = some (.int .i64 m1) := (HB.out.ext hext).cell 0
      have d1 : wr.cell? ⟨p, 1, none⟩ = some (.int .i64 m2) := (HB.out.ext hext).cell 1
      generalize Ent.atL (l.take k) (m1, m2) = out at *
      generalize l[k] = x at *
      obtain ⟨⟨x1, x2⟩, x3, x4⟩ := x
      dsimp only at *
      have hxl : Ext wr (wr.alloc (.cells #[.int .i64 x1, .int .i64 x2, .int .i64 x3, .int .i64 x4] 28)) := (Ext.refl _).alloc _
      have d0 := hxl.cell d0
      have d1 := hxl.cell d1
      obtain ⟨y0, y1, y2, y3⟩ := Bx4.new wr 28 x1 x2 x3 x4
      have HX5 := Lib.hid (HE.out.trans hxl)
      have HO5 := Lib.hid (HO.out.ext hxl)
      clear hext hk hlt hxl
      go_upto_region 5 with fail
      generalize wr.heap.size = q at *
      generalize wr.alloc (.cells #[.int .i64 x1, .int .i64 x2, .int .i64 x3, .int .i64 x4] 28) = w5 at *
      by_cases hq : (x1, x2) = (m1, m2)
      · have hd := Mo.pairB_t hq
        rw [if_pos hq] at HS
        clear hq
        have hxl : Ext w5 (w5.alloc (.cells #[.int .i64 x3, .int .i64 x4] 26)) := (Ext.refl _).alloc _
        have HLT2 := Lib.hid (RP.lit w5 #[.int .i64 x3, .int .i64 x4] 26 1 [(x3, x4)] rfl (by omega) rfl)
        have HOL := Lib.hid (HO5.out.ext hxl)
        have HXL := Lib.hid (HX5.out.trans hxl)
        clear hxl
        go_wp2_with (at_builtin; refine wpList_app rfl elemM _ _ _ rfl w0.heap.size _ out.length _ rfl HOL.out.own _ 1 _ rfl HLT2.out.rd (one_pV _) (by have := HOUT.out; omega) (by have := HOUT.out; unfold maxLen; omega) HXL.out.size ?_; intro v7 w7 ha)
        exact ⟨⟨k + 1, HLT.out, by go_num, by rw [HS.out]; exact OP.app ha.own, ha.ext HXL.out rfl HOL.out.own⟩, by have := HLT.out; simp [intOf]; omega⟩
      · have hd := Mo.pairB_f hq
        rw [if_neg hq, List.append_nil] at HS
        clear hq
        go_wp2
        exact ⟨⟨k + 1, HLT.out, by go_num, by rw [HS.out]; exact HO5.out, HX5.out⟩, by have := HLT.out; simp [intOf]; omega⟩
    · have hk2 : k = l.length := by omega
      subst hk2
      have g1 : ¬ (l.length : Int) < (l.length : Int) := by omega
      rw [List.take_length] at HO HOUT ⊢
      generalize hq : Ent.atL l (m1, m2) = out at *
      have HQ := Lib.hid hq
      clear hext hq
      go_wp2
      go_ret
      rw [HQ.out]
      exact ⟨_, rfl, HO.out.low (by have := HSZ.out; have := HP.out; omega), HX0.out.trans HE.out⟩

set_option maxRecDepth 100000 in
set_option maxHeartbeats 2000000 in
theorem rat_any (v : Value) (l : List Ent.E) (m : Int × Int) (w : World) (hv : RE w v l) (hl : l.length ≤ 1000000) :
    Calls Try.prog 27 #[v, mV m] w fun e w' => ∃ u, e = .returned u ∧ OP 26 w.heap.size w' u (Ent.atL l m) ∧ Ext w w' := by
  obtain ⟨A, c, rfl⟩ := hv.form
  obtain ⟨m1, m2⟩ := m
  have hx0 := (Ext.refl w).alloc (.cells #[.int .i64 m1, .int .i64 m2] 24)
  have HX0 := Lib.hid hx0
  have HV := Lib.hid (hv.ext hx0)
  have HB := Lib.hid (Blk.new w 24 #[.int .i64 m1, .int .i64 m2])
  have hE := Mo.eqM
  have hG := Mo.guardM
  have HL := Lib.hid hl
  clear hv hx0
  go_enter Try.func27, Try.ntmps27
  go_wp2
  have HSZ := Lib.hid (HX0.out.size)
  generalize hp : w.heap.size = p at *
  have HP := Lib.hid hp
  clear hp
  generalize w.alloc (.cells #[.int .i64 m1, .int .i64 m2] 24) = w0 at *
  go_loopw [5, 6] (fun o iv wr => ∃ k : Nat, k ≤ l.length ∧ iv = .int .i64 k ∧ OP 26 w0.heap.size wr o (Ent.atL (l.take k) (m1, m2)) ∧ Ext w0 wr) (fun _ iv _ => l.length - (intOf iv).toNat)
  case atStart => exact ⟨0, Nat.zero_le _, rfl, OP.nilS _ _ _, Ext.refl _⟩
  case round =>
    obtain ⟨k, hk, rfl, ho, hext⟩ := hrel
    have HE := Lib.hid hext
    have HO := Lib.hid ho
    obtain ⟨AO, cO, rfl⟩ := ho.rp.form
    have hle := Ent.atL_len l (m1, m2) k
    have HOUT := Lib.hid (show (Ent.atL (l.take k) (m1, m2)).length ≤ 1000000 by omega)
    clear ho hle
    by_cases hlt : k < l.length
    · have g1 : (k : Int) < (l.length : Int) := by omega
      have g1n : k < l.length := hlt
      have g0 : 0 ≤ (k : Int) := by omega
      have hkb : k ≤ 1000000 := by omega
      have HLT := Lib.hid hlt
      obtain ⟨bA, oA, rfl, c0, c1, c2, c3⟩ := re4 (HV.out.ext hext) hlt
      have HS := Lib.hid (Ent.atL_s l (m1, m2) hlt)
      have d0 : wr.cell? ⟨p, 0, none⟩ = some (.int .i64 m1) := (HB.out.ext hext).cell 0
      have d1 : wr.cell? ⟨p, 1, none⟩ = some (.int .i64 m2) := (HB.out.ext hext).cell 1
      generalize Ent.atL (l.take k) (m1, m2) = out at *
      generalize l[k] = x at *
      obtain ⟨⟨x1, x2⟩, x3, x4⟩ := x
      dsimp only at *
      clear hext hk hlt
      by_cases hq : (x1, x2) = (m1, m2)
      · have hd := Mo.pairB_t hq
        rw [if_pos hq] at HS
        clear hq
        go_wp2
        refine wp_region_ext (by kernel_rfl) (by rfl) (by rfl) (by kernel_rfl) ?_
        repeat (first | ((first | (refine wpM_move00 Ext.refl rfl rfl rfl ?_) | (refine wpM_move01 Ext.refl rfl rfl rfl rfl ?_)); apply Exists.intro; refine ⟨?_, ?_⟩; · (go_simp; rfl)) | (first | (refine wpM_movek0 Ext.refl rfl rfl rfl ?_) | (refine wpM_movek1 Ext.refl rfl rfl rfl rfl ?_)) | ((first | (refine wpM_val0 Ext.refl rfl ?_) | (refine wpM_val1 Ext.refl rfl rfl ?_)); apply Exists.intro; refine ⟨?_, ?_⟩; · (intro a w' hR; intro h1; (first | (have e1 : _ = _ := h1) | skip); intro h2; (first | (have e2 : _ = _ := h2) | skip); go_simp; rfl)) | ((first | (refine wpM_val0 Ext.refl rfl ?_) | (refine wpM_val1 Ext.refl rfl rfl ?_)); apply Exists.intro; refine ⟨?_, ?_⟩; · (intro a w' hR; intro h1; (first | (have e1 : _ = _ := h1) | skip); go_simp; rfl)) | ((first | (refine wpM_val0 Ext.refl rfl ?_) | (refine wpM_val1 Ext.refl rfl rfl ?_)); apply Exists.intro; refine ⟨?_, ?_⟩; · (intro a w' hR; go_simp; rfl)) | ((first | (refine wpM_val0 Ext.refl rfl ?_) | (refine wpM_val1 Ext.refl rfl rfl ?_)); apply Exists.intro; refine ⟨?_, ?_⟩; · (intro a w' hR; intro h1; (first | (have e1 : _ = _ := h1) | skip); intro h2; (first | (have e2 : _ = _ := h2) | skip); intro h3; (first | (have e3 : _ = _ := h3) | skip); go_simp; rfl)) | (refine wpM_skip1 rfl ?_) | (refine wpM_skipU rfl ?_))
        (first | (refine wpM_val0 Ext.refl rfl ?_) | (refine wpM_val1 Ext.refl rfl rfl ?_)); apply Exists.intro; refine ⟨?_, ?_⟩
        · intro a w' hR h1
          have e1 : _ = _ := h1
          have hl0 := hR.cell c0
          have hl1 := hR.cell c1
          go_simp
          rfl
        (first | (refine wpM_val0 Ext.refl rfl ?_) | (refine wpM_val1 Ext.refl rfl rfl ?_)); apply Exists.intro; refine ⟨?_, ?_⟩
        · intro a w' hR h1
          have e1 : _ = _ := h1
          have hl0 := hR.cell d0
          have hl1 := hR.cell d1
          go_simp
          rfl
        repeat (first | ((first | (refine wpM_move00 Ext.refl rfl rfl rfl ?_) | (refine wpM_move01 Ext.refl rfl rfl rfl rfl ?_)); apply Exists.intro; refine ⟨?_, ?_⟩; · (go_simp; rfl)) | (first | (refine wpM_movek0 Ext.refl rfl rfl rfl ?_) | (refine wpM_movek1 Ext.refl rfl rfl rfl rfl ?_)) | ((first | (refine wpM_val0 Ext.refl rfl ?_) | (refine wpM_val1 Ext.refl rfl rfl ?_)); apply Exists.intro; refine ⟨?_, ?_⟩; · (intro a w' hR; intro h1; (first | (have e1 : _ = _ := h1) | skip); intro h2; (first | (have e2 : _ = _ := h2) | skip); go_simp; rfl)) | ((first | (refine wpM_val0 Ext.refl rfl ?_) | (refine wpM_val1 Ext.refl rfl rfl ?_)); apply Exists.intro; refine ⟨?_, ?_⟩; · (intro a w' hR; intro h1; (first | (have e1 : _ = _ := h1) | skip); go_simp; rfl)) | ((first | (refine wpM_val0 Ext.refl rfl ?_) | (refine wpM_val1 Ext.refl rfl rfl ?_)); apply Exists.intro; refine ⟨?_, ?_⟩; · (intro a w' hR; go_simp; rfl)) | ((first | (refine wpM_val0 Ext.refl rfl ?_) | (refine wpM_val1 Ext.refl rfl rfl ?_)); apply Exists.intro; refine ⟨?_, ?_⟩; · (intro a w' hR; intro h1; (first | (have e1 : _ = _ := h1) | skip); intro h2; (first | (have e2 : _ = _ := h2) | skip); intro h3; (first | (have e3 : _ = _ := h3) | skip); go_simp; rfl)) | (refine wpM_skip1 rfl ?_) | (refine wpM_skipU rfl ?_))
        refine wpM_done ?_
        intro w5 hx5
        iterate 7 (rintro _ rfl)
        dsimp only [FinV]
        go_simp
        have c2 := hx5.cell c2
        have c3 := hx5.cell c3
        have HX5 := Lib.hid (HE.out.trans hx5)
        have HO5 := Lib.hid (HO.out.ext hx5)
        have hxl : Ext w5 (w5.alloc (.cells #[.int .i64 x3, .int .i64 x4] 26)) := (Ext.refl _).alloc _
        have HLT2 := Lib.hid (RP.lit w5 #[.int .i64 x3, .int .i64 x4] 26 1 [(x3, x4)] rfl (by omega) rfl)
        have HOL := Lib.hid (HO5.out.ext hxl)
        have HXL := Lib.hid (HX5.out.trans hxl)
        clear hxl hx5
        go_wp2_with (at_builtin; refine wpList_app rfl elemM _ _ _ rfl w0.heap.size _ out.length _ rfl HOL.out.own _ 1 _ rfl HLT2.out.rd (one_pV _) (by have := HOUT.out; omega) (by have := HOUT.out; unfold maxLen; omega) HXL.out.size ?_; intro v7 w7 ha)
        exact ⟨⟨k + 1, HLT.out, by go_num, by rw [HS.out]; exact OP.app ha.own, ha.ext HXL.out rfl HOL.out.own⟩, by have := HLT.out; simp [intOf]; omega⟩
      · have hd := Mo.pairB_f hq
        rw [if_neg hq, List.append_nil] at HS
        clear hq
        go_wp2
        refine wp_region_ext (by kernel_rfl) (by rfl) (by rfl) (by kernel_rfl) ?_
        repeat (first | ((first | (refine wpM_move00 Ext.refl rfl rfl rfl ?_) | (refine wpM_move01 Ext.refl rfl rfl rfl rfl ?_)); apply Exists.intro; refine ⟨?_, ?_⟩; · (go_simp; rfl)) | (first | (refine wpM_movek0 Ext.refl rfl rfl rfl ?_) | (refine wpM_movek1 Ext.refl rfl rfl rfl rfl ?_)) | ((first | (refine wpM_val0 Ext.refl rfl ?_) | (refine wpM_val1 Ext.refl rfl rfl ?_)); apply Exists.intro; refine ⟨?_, ?_⟩; · (intro a w' hR; intro h1; (first | (have e1 : _ = _ := h1) | skip); intro h2; (first | (have e2 : _ = _ := h2) | skip); go_simp; rfl)) | ((first | (refine wpM_val0 Ext.refl rfl ?_) | (refine wpM_val1 Ext.refl rfl rfl ?_)); apply Exists.intro; refine ⟨?_, ?_⟩; · (intro a w' hR; intro h1; (first | (have e1 : _ = _ := h1) | skip); go_simp; rfl)) | ((first | (refine wpM_val0 Ext.refl rfl ?_) | (refine wpM_val1 Ext.refl rfl rfl ?_)); apply Exists.intro; refine ⟨?_, ?_⟩; · (intro a w' hR; go_simp; rfl)) | ((first | (refine wpM_val0 Ext.refl rfl ?_) | (refine wpM_val1 Ext.refl rfl rfl ?_)); apply Exists.intro; refine ⟨?_, ?_⟩; · (intro a w' hR; intro h1; (first | (have e1 : _ = _ := h1) | skip); intro h2; (first | (have e2 : _ = _ := h2) | skip); intro h3; (first | (have e3 : _ = _ := h3) | skip); go_simp; rfl)) | (refine wpM_skip1 rfl ?_) | (refine wpM_skipU rfl ?_))
        (first | (refine wpM_val0 Ext.refl rfl ?_) | (refine wpM_val1 Ext.refl rfl rfl ?_)); apply Exists.intro; refine ⟨?_, ?_⟩
        · intro a w' hR h1
          have e1 : _ = _ := h1
          have hl0 := hR.cell c0
          have hl1 := hR.cell c1
          go_simp
          rfl
        (first | (refine wpM_val0 Ext.refl rfl ?_) | (refine wpM_val1 Ext.refl rfl rfl ?_)); apply Exists.intro; refine ⟨?_, ?_⟩
        · intro a w' hR h1
          have e1 : _ = _ := h1
          have hl0 := hR.cell d0
          have hl1 := hR.cell d1
          go_simp
          rfl
        repeat (first | ((first | (refine wpM_move00 Ext.refl rfl rfl rfl ?_) | (refine wpM_move01 Ext.refl rfl rfl rfl rfl ?_)); apply Exists.intro; refine ⟨?_, ?_⟩; · (go_simp; rfl)) | (first | (refine wpM_movek0 Ext.refl rfl rfl rfl ?_) | (refine wpM_movek1 Ext.refl rfl rfl rfl rfl ?_)) | ((first | (refine wpM_val0 Ext.refl rfl ?_) | (refine wpM_val1 Ext.refl rfl rfl ?_)); apply Exists.intro; refine ⟨?_, ?_⟩; · (intro a w' hR; intro h1; (first | (have e1 : _ = _ := h1) | skip); intro h2; (first | (have e2 : _ = _ := h2) | skip); go_simp; rfl)) | ((first | (refine wpM_val0 Ext.refl rfl ?_) | (refine wpM_val1 Ext.refl rfl rfl ?_)); apply Exists.intro; refine ⟨?_, ?_⟩; · (intro a w' hR; intro h1; (first | (have e1 : _ = _ := h1) | skip); go_simp; rfl)) | ((first | (refine wpM_val0 Ext.refl rfl ?_) | (refine wpM_val1 Ext.refl rfl rfl ?_)); apply Exists.intro; refine ⟨?_, ?_⟩; · (intro a w' hR; go_simp; rfl)) | ((first | (refine wpM_val0 Ext.refl rfl ?_) | (refine wpM_val1 Ext.refl rfl rfl ?_)); apply Exists.intro; refine ⟨?_, ?_⟩; · (intro a w' hR; intro h1; (first | (have e1 : _ = _ := h1) | skip); intro h2; (first | (have e2 : _ = _ := h2) | skip); intro h3; (first | (have e3 : _ = _ := h3) | skip); go_simp; rfl)) | (refine wpM_skip1 rfl ?_) | (refine wpM_skipU rfl ?_))
        refine wpM_done ?_
        intro w5 hx5
        iterate 7 (rintro _ rfl)
        dsimp only [FinV]
        go_simp
        have HX5 := Lib.hid (HE.out.trans hx5)
        have HO5 := Lib.hid (HO.out.ext hx5)
        clear hx5
        go_wp2
        exact ⟨⟨k + 1, HLT.out, by go_num, by rw [HS.out]; exact HO5.out, HX5.out⟩, by have := HLT.out; simp [intOf]; omega⟩
    · have hk2 : k = l.length := by omega
      subst hk2
      have g1 : ¬ (l.length : Int) < (l.length : Int) := by omega
      rw [List.take_length] at HO HOUT ⊢
      generalize hq : Ent.atL l (m1, m2) = out at *
      have HQ := Lib.hid hq
      clear hext hq
      go_wp2
      go_ret
      rw [HQ.out]
      exact ⟨_, rfl, HO.out.low (by have := HSZ.out; have := HP.out; omega), HX0.out.trans HE.out⟩

/-! ### behind a front -/
def delB (f : List (Int × Int)) (s : Unit) (x : Ent.E) : Bool × Unit := (!Mom.covers f x.1, s)
theorem keepB (f : List (Int × Int)) (l : List Ent.E) : keepS (delB f) () l = Ent.bhd l f := by
  have h : keepS (delB f) () l = l.filter fun x => !(!Mom.covers f x.1) := keepS_pure (fun x : Ent.E => !Mom.covers f x.1) l
  rw [h]
  unfold Ent.bhd
  simp
set_option maxRecDepth 100000 in
set_option maxHeartbeats 1000000 in
theorem behind1_any (g : Nat) (fv : Value) (f : List (Int × Int)) (x : Ent.E) (w : World) (hc : w.cell? ⟨g, 0, none⟩ = some fv) (hr : RP w fv f) (hl : f.length ≤ 1000000) :
    Calls Try.prog 55 #[entV x, .pointer (some ⟨g, 0, none⟩)] w fun e w' => e = .returned (.bool (!Mom.covers f x.1)) ∧ Ext w w' := by
  have HC := Lib.hid (fun w h => Mo.covers_any fv f x.1 w h (by omega))
  obtain ⟨⟨x1, x2⟩, x3, x4⟩ := x
  have hxl : Ext w (w.alloc (.cells #[.int .i64 x1, .int .i64 x2, .int .i64 x3, .int .i64 x4] 28)) := (Ext.refl _).alloc _
  have HX := Lib.hid hxl
  have HR := Lib.hid (hr.ext hxl)
  have hc := hxl.cell hc
  obtain ⟨y0, y1, y2, y3⟩ := Bx4.new w 28 x1 x2 x3 x4
  obtain ⟨Af, cf, rfl⟩ := hr.form
  dsimp only at *
  clear hr hxl
  go_enter Try.func55, Try.ntmps55
  go_wp2_with fail
  refine (HC.out _ HR.out).mono ?_
  rintro e w1 ⟨rfl, he1⟩
  go_wp2
  go_ret
  exact ⟨rfl, HX.out.trans he1⟩
set_option maxRecDepth 100000 in
set_option maxHeartbeats 2000000 in
theorem behind_any (v u : Value) (l : List Ent.E) (f : List (Int × Int)) (w : World) (hv : RE w v l) (hu : RP w u f) (hl : l.length ≤ 1000000) (hf : f.length ≤ 1000000) :
    Calls Try.prog 28 #[v, u] w fun e w' => ∃ x, e = .returned x ∧ RE w' x (Ent.bhd l f) ∧ Ext w w' := by
  obtain ⟨A, c, rfl⟩ := hv.form
  obtain ⟨B, d, rfl⟩ := hu.form
  have eg : ∀ args w, (callFunc 55 args).run Try.prog w = .ok (.enter 55 args) w := enters_of Try.func55 (by kernel_rfl) rfl
  have hx0 := (Ext.refl w).alloc (.cells #[.slice B f.length d] 51)
  have HX0 := Lib.hid hx0
  have HB0 := Lib.hid (Blk.new w 51 #[.slice B f.length d])
  have HCL := Lib.hid (cloneE_any _ l _ (hv.ext hx0) (by omega))
  have HU := Lib.hid hu
  have HEG := Lib.hid eg
  clear hv hu hx0 eg
  go_enter Try.func28, Try.ntmps28
  go_wp2_with fail
  refine HCL.out.mono ?_
  rintro e w1 ⟨v1, rfl, ho1, he1⟩
  obtain ⟨b, hb⟩ : ∃ b, b = v1.ownBlock.getD w1.heap.size := ⟨_, rfl⟩
  have hbk : ∀ k, v1.ownBlock = some k → k = b := fun k hk => by rw [hb, hk]; rfl
  have hbl : w.heap.size < b := by
    cases hq : v1.ownBlock with
    | none => rw [hb, hq]; have := he1.size; simp at this; simp; omega
    | some k => rw [hb, hq]; have := (ho1.own.lt k hq).1; simp at this; simp; omega
  have hbx : Blk w1 w.heap.size 51 #[.slice B f.length d] := HB0.out.ext he1
  have hx1 : Ext w w1 := HX0.out.trans he1
  have HX1 := Lib.hid hx1
  have HD := Lib.hid (delEs_any (delB f) 55 #[.pointer (some ⟨w.heap.size, 0, none⟩)] HEG.out (fun _ W => ExtQ (fun k => k = b) w1 W) (fun _ => False) b (w.alloc (.cells #[.slice B f.length d] 51)).heap.size
    (fun _ _ _ h k => h.trans k) (fun h => h) v1 l w1 ho1 hbk (fun _ h => h.elim) () (ExtQ.refl _ _) (by omega)
    (fun j hj W h => (behind1_any w.heap.size (.slice B f.length d) f l[j] W ((hbx.extQ h (by omega)).cell 0) (RP.extNew (Q := fun k => k = b) (HU.out) ((ExtQ.of hx1).trans h) (fun k hk => by omega)) hf).mono fun e W' ⟨h1, h2⟩ => ⟨h1, h.trans (ExtQ.of h2), ExtQ.of h2⟩))
  obtain ⟨A1, c1, rfl⟩ := ho1.re.form
  have HBL := Lib.hid hbl
  clear ho1 he1 hbk hbx hx1 hb hbl
  go_wp2_with fail
  refine HD.out.mono ?_
  rintro e w2 ⟨v2, rfl, ho2, _, _, hx2⟩
  rw [keepB] at ho2
  go_wp2
  go_ret
  exact ⟨_, rfl, ho2.re, HX1.out.andQ hx2 (fun k hk => by have := HBL.out; rcases hk with h | h; exact h.elim; omega)⟩
set_option maxRecDepth 100000 in
set_option maxHeartbeats 2000000 in
theorem rbehind_any (v u : Value) (l : List Ent.E) (f : List (Int × Int)) (w : World) (hv : RE w v l) (hu : RP w u f) (hl : l.length ≤ 1000000) (hf : f.length ≤ 1000000) :
    Calls Try.prog 29 #[v, u] w fun e w' => ∃ x, e = .returned x ∧ RE w' x (Ent.bhd l f) ∧ Ext w w' := by
  obtain ⟨A, c, rfl⟩ := hv.form
  obtain ⟨B, d, rfl⟩ := hu.form
  have HV := Lib.hid hv
  have HU := Lib.hid hu
  have HC := Lib.hid (fun x w h => Mo.rcovers_any (.slice B f.length d) f x w h (by omega))
  have HL := Lib.hid hl
  clear hv hu
  go_enter Try.func29, Try.ntmps29
  go_wp2
  go_loopw [5, 6] (fun o iv wr => ∃ k : Nat, k ≤ l.length ∧ iv = .int .i64 k ∧ OE 28 w.heap.size wr o (Ent.bhd (l.take k) f) ∧ Ext w wr) (fun _ iv _ => l.length - (intOf iv).toNat)
  case atStart => exact ⟨0, Nat.zero_le _, rfl, OE.nilS _ _ _, Ext.refl _⟩
  case round =>
    obtain ⟨k, hk, rfl, ho, hext⟩ := hrel
    have HE := Lib.hid hext
    have HO := Lib.hid ho
    obtain ⟨AO, cO, rfl⟩ := ho.re.form
    have hle := Ent.bhd_len l f k
    have HOUT := Lib.hid (show (Ent.bhd (l.take k) f).length ≤ 1000000 by omega)
    clear ho hle
    by_cases hlt : k < l.length
    · have g1 : (k : Int) < (l.length : Int) := by omega
      have g1n : k < l.length := hlt
      have g0 : 0 ≤ (k : Int) := by omega
      have hkb : k ≤ 1000000 := by omega
      have HLT := Lib.hid hlt
      obtain ⟨bA, oA, rfl, c0, c1, c2, c3⟩ := re4 (HV.out.ext hext) hlt
      have HS := Lib.hid (Ent.bhd_s l f hlt)
      have HUr := Lib.hid (HU.out.ext hext)
      have HCX := Lib.hid (fun w h => HC.out l[k].1 w h)
      generalize Ent.bhd (l.take k) f = out at *
      generalize l[k] = x at *
      generalize Mom.covers f x.1 = cv at *
      obtain ⟨⟨x1, x2⟩, x3, x4⟩ := x
      dsimp only at *
      clear hext hk hlt
      cases cv with
      | true =>
        rw [if_pos rfl] at HS
        go_wp2_with fail
        refine (HCX.out _ HUr.out).mono ?_
        rintro e w5 ⟨rfl, hx5⟩
        have c0 := hx5.cell c0
        have c1 := hx5.cell c1
        have c2 := hx5.cell c2
        have c3 := hx5.cell c3
        have HX5 := Lib.hid (HE.out.trans hx5)
        have HO5 := Lib.hid (HO.out.ext hx5)
        have hxl : Ext w5 (w5.alloc (.cells #[.int .i64 x1, .int .i64 x2, .int .i64 x3, .int .i64 x4] 28)) := (Ext.refl _).alloc _
        have HLT2 := Lib.hid (RE.lit w5 #[.int .i64 x1, .int .i64 x2, .int .i64 x3, .int .i64 x4] 28 1 [(((x1, x2), x3, x4) : Ent.E)] rfl (by omega) rfl)
        have HOL := Lib.hid (HO5.out.ext hxl)
        have HXL := Lib.hid (HX5.out.trans hxl)
        clear hxl hx5
        go_wp2_with (at_builtin; refine wpList_appE rfl elemE _ _ _ rfl w.heap.size _ _ out [(((x1, x2), x3, x4) : Ent.E)] rfl HOL.out rfl HLT2.out (by have := HOUT.out; simp; omega) (by have := HOUT.out; unfold maxLen; simp; omega) HXL.out.size ?_; intro v7 w7 ho7 hg7 hat7)
        exact ⟨⟨k + 1, HLT.out, by go_num, by rw [HS.out]; exact ho7, HXL.out.grown hat7 fun g hg => (HOL.out.own.lt g hg).1⟩, by have := HLT.out; simp [intOf]; omega⟩
      | false =>
        rw [if_neg (by simp), List.append_nil] at HS
        go_wp2_with fail
        refine (HCX.out _ HUr.out).mono ?_
        rintro e w5 ⟨rfl, hx5⟩
        have HX5 := Lib.hid (HE.out.trans hx5)
        have HO5 := Lib.hid (HO.out.ext hx5)
        clear hx5
        go_wp2
        exact ⟨⟨k + 1, HLT.out, by go_num, by rw [HS.out]; exact HO5.out, HX5.out⟩, by have := HLT.out; simp [intOf]; omega⟩
    · have hk2 : k = l.length := by omega
      subst hk2
      have g1 : ¬ (l.length : Int) < (l.length : Int) := by omega
      rw [List.take_length] at HO HOUT ⊢
      generalize hq : Ent.bhd l f = out at *
      have HQ := Lib.hid hq
      clear hext hq
      go_wp2
      go_ret
      rw [HQ.out]
      exact ⟨_, rfl, HO.out.re, HE.out⟩
end Go.Proofs.Ytacpomonidmjaaa
