/-
  route.Split: of each shard its records.
-/
import Derived.Test.YtjgcalgjfhjejaaRoute
namespace Go.Ox
open Go.RowKit
/-- rows of nothing that were just made -/
theorem OV.made {α : Type} [C : Enc α] {T E base n : Nat} {w : World} {v : Value} (h : w.ownsRow base T 1 v n (List.replicate n (.slice none 0 0))) : OV (α := α) T E base w v (List.replicate n []) (List.replicate n (.slice none 0 0)) := by
  refine ⟨by rw [List.length_replicate]; exact h, fun k hk => ?_, fun i j x y _ hx _ g hg => ?_⟩
  · rw [List.length_replicate] at hk
    exact ⟨.slice none 0 0, by rw [List.getElem?_replicate, if_pos hk], by rw [List.getElem_replicate]; exact OE.nilS _ _ _, fun g hg => by cases hg⟩
  · rw [List.getElem?_replicate] at hx
    split at hx
    · injection hx with hx
      subst hx; cases hg
    · cases hx
end Go.Ox
namespace Go.Proofs.Ytjgcalgjfhjejaa
open Go.RowKit Go.Ox Go.Shelf
attribute [local irreducible] OP RP
set_option linter.unusedVariables false
set_option linter.unusedSimpArgs false

theorem elemSS : Elem Try.prog 24 22 (.slice none 0 0) 1 24 := Elem.mk' Try.underlying24 (by kernel_rfl) rfl (by omega)
theorem madeS (n : Nat) : (madeCells (Value.slice none 0 0).cells (n * 1)).toList = List.replicate n (.slice none 0 0) := by
  rw [Nat.mul_one, show (Value.slice none 0 0).cells = #[Value.slice none 0 0] from rfl, toList_madeCells_one]
/-- what a row appended to is -/
structure GrownR (base B : Nat) (ub : Option Nat) (l : List Rec.R) (v : Value) (w : World) : Prop where
  own : OP 42 base w v l
  at_ : v.ownBlock = ub ∨ ∃ g, v.ownBlock = some g ∧ B ≤ g
theorem GrownR.ext {base B : Nat} {ub : Option Nat} {l : List Rec.R} {v : Value} {w w' : World} (h : GrownR base B ub l v w) (he : Ext w w') : GrownR base B ub l v w' := ⟨h.own.ext he, h.at_⟩
theorem frozen_of_block {w w' : World} {p : Addr} (h : w'.heap[p.block]? = w.heap[p.block]?) : w'.frozen? p = w.frozen? p := by simp [World.frozen?, h]

set_option maxRecDepth 100000 in
set_option maxHeartbeats 1000000 in
theorem split_arg (A : Option Addr) (m c : Nat) (n : Int) (w : World) (hn : n < 1 ∨ 8 < n) :
    Calls Try.prog 7 #[.slice A m c, .int .i64 n] w fun e w' => e = .returned (.tuple #[.slice none 0 0, .int .i64 1]) ∧ w = w' := by
  have HM := Lib.hid (fun w => rtmay_is n w false (by simp; omega))
  clear hn
  go_enter Try.func7, Try.ntmps7
  go_wp2_with fail
  refine (HM.out _).mono ?_
  rintro e w' ⟨rfl, rfl⟩
  go_wp2
  go_ret2
  exact ⟨rfl, rfl⟩
set_option maxRecDepth 100000 in
set_option maxHeartbeats 1000000 in
theorem split_err (v : Value) (l : List Rec.R) (n : Nat) (w : World) (hv : RP w v l) (hl : l.length ≤ 1000000) (hn : 1 ≤ n ∧ n ≤ 8) (hm : Rec.may l ≠ 0) :
    Calls Try.prog 7 #[v, .int .i64 n] w fun e w' => e = .returned (.tuple #[.slice none 0 0, .int .i64 (Rec.may l)]) ∧ Ext w w' := by
  have HM := Lib.hid (fun w => rtmay_is (n : Int) w true (by simp; omega))
  have HS := Lib.hid (sort_err v l w hv hl hm)
  obtain ⟨A, c, rfl⟩ := hv.form
  have h2 : (Rec.may l != 0) = true := by simpa using hm
  generalize Rec.may l = m at *
  clear hv hm hn
  go_enter Try.func7, Try.ntmps7
  go_wp2_with fail
  refine (HM.out _).mono ?_
  rintro e w' ⟨rfl, rfl⟩
  go_wp2_with fail
  refine HS.out.mono ?_
  rintro e w1 ⟨rfl, he1⟩
  go_wp2
  go_ret2
  exact ⟨rfl, he1⟩

set_option maxRecDepth 100000 in
set_option maxHeartbeats 8000000 in
theorem split_ok (v : Value) (l : List Rec.R) (n : Nat) (w : World) (hv : RP w v l) (hl : l.length ≤ 1000000) (hn : 1 ≤ n ∧ n ≤ 8) (hm : Rec.may l = 0) :
    Calls Try.prog 7 #[v, .int .i64 n] w fun e w' => ∃ v', e = .returned (.tuple #[v', .int .i64 0]) ∧ RRS w' v' (Rt.spl (Rec.srt l) n) ∧ Ext w w' := by
  have HM := Lib.hid (fun w => rtmay_is (n : Int) w true (by simp; omega))
  have HS := Lib.hid (sort_ok v l w hv hl hm)
  have HSL := Lib.hid (show (Rec.srt l).length ≤ 1000000 by rw [Rec.srt_len]; exact hl)
  obtain ⟨A, c, rfl⟩ := hv.form
  have HN := Lib.hid hn
  have gn0 : (0 : Int) ≤ (n : Int) := by omega
  generalize Rec.srt l = S at *
  clear hv hl hm hn
  go_enter Try.func7, Try.ntmps7
  go_wp2_with fail
  refine (HM.out _).mono ?_
  rintro e w' ⟨rfl, rfl⟩
  go_wp2_with fail
  refine HS.out.mono ?_
  rintro e w1 ⟨v1, rfl, ho1, he1⟩
  have HR1 := Lib.hid ho1.rp
  have HX1 := Lib.hid he1
  obtain ⟨A1, c1, rfl⟩ := ho1.rp.form
  clear ho1 he1 HS HM
  go_wp2_with (at_make; refine wpList_mk rfl elemSS _ (.tmp 23) (.tmp 23) rfl n rfl rfl (by have := HN.out; omega) (by have := HN.out; unfold maxLen; omega) ?_; intro v2 w2 hv2 ho2 he2; subst hv2; rw [madeS] at ho2; have HO2 := Lib.hid (OV.made (α := Rec.R) (E := 42) ho2); have HE2 := Lib.hid he2; clear ho2 he2)
  obtain ⟨b, hb⟩ : ∃ b, w1.heap.size = b := ⟨_, rfl⟩
  have HBW := Lib.hid hb
  rw [hb] at HO2
  try rw [hb]
  clear hb
  go_loopw [27] (fun iv wr => ∃ (k : Nat) (us : List Value), k ≤ S.length ∧ iv = .int .i64 (k : Int) ∧ OV 22 42 b wr (.slice (some ⟨b, 0, none⟩) n n) (Rt.spl (S.take k) n) us ∧ Ext w1 wr) (fun iv _ => S.length - (intOf iv).toNat)
  case atStart => exact ⟨0, _, Nat.zero_le _, rfl, by rw [List.take_zero, Rt.spl_nil]; exact HO2.out, HE2.out⟩
  case round =>
    obtain ⟨k, us, hk, rfl, ho, hext⟩ := hrel
    have HE := Lib.hid hext
    have HO := Lib.hid ho
    clear ho
    by_cases hlt : k < S.length
    · have g1 : (k : Int) < (S.length : Int) := by omega
      have g1n : k < S.length := hlt
      have g0 : 0 ≤ (k : Int) := by omega
      have HLT := Lib.hid hlt
      have hkb : k ≤ 1000000 := by have := HSL.out; omega
      obtain ⟨bA, oA, rfl, xa, xb⟩ := (HR1.out.ext hext).at_ (k := k) hlt
      have hsb := Rt.shard_bd S[k].1 HN.out.1
      obtain ⟨j, hj⟩ : ∃ j : Nat, Rt.shard S[k].1 n = j := ⟨(Rt.shard S[k].1 n).toNat, by omega⟩
      have hjl : j < (Rt.spl (S.take k) n).length := by rw [Rt.spl_len]; omega
      have HSN := Lib.hid (show Rt.spl (S.take (k + 1)) n = (Rt.spl (S.take k) n).set j ((Rt.spl (S.take k) n)[j] ++ [S[k]]) by
        rw [List.take_succ_eq_append_getElem hlt]; exact Rt.spl_snoc _ _ _ hj hjl)
      have gj : (j : Int) < (n : Int) := by omega
      have gjn : j < n := by omega
      have gj0 : 0 ≤ (j : Int) := by omega
      have HRB := Lib.hid (show ((Rt.spl (S.take k) n)[j]).length ≤ 1000000 by
        rw [Rt.spl_at]
        have h1 := List.length_filter_le (fun r : Rec.R => decide (Rt.shard r.1 n = (j : Int))) (S.take k)
        have h2 := HSL.out
        rw [List.length_take] at h1; omega)
      have HSH := Lib.hid (fun w => shard_any S[k].1 n w)
      rw [hj] at HSH
      obtain ⟨b2, cap, u, hv2, husj, hc, hfz, hbb, hou, hub⟩ := HO.out.at_ hjl
      injection hv2 with hv1 hv3 hv4
      injection hv1 with hv1
      injection hv1 with hv5 hv6
      subst hv5
      have HJL := Lib.hid hjl
      clear hv3 hv4 hv6 hsb hj
      generalize S[k] = x at *
      generalize hF : Rt.spl (S.take k) n = F at *
      generalize hrw : F[j] = row at *
      have HRW := Lib.hid hrw
      obtain ⟨Au, cu, rfl⟩ := (RE.rp hou.re).form
      have HUJ := Lib.hid husj
      have HOU := Lib.hid hou
      have HBB := Lib.hid hbb
      have HUB := Lib.hid hub
      have HFZ := Lib.hid hfz
      have HSZ := Lib.hid (show b ≤ wr.heap.size by have := HBW.out; have := hext.size; omega)
      obtain ⟨x1, x2⟩ := x
      dsimp only at *
      clear hext hk hlt hF hrw husj hou hbb hub hfz hjl
      go_upto_region 10 with fail
      have hxl : Ext wr (wr.alloc (.cells #[.int .i64 x1, .int .i64 x2] 42)) := (Ext.refl _).alloc _
      have y0 := (Blk.new wr 42 #[.int .i64 x1, .int .i64 x2]).cell 0
      have y1 := (Blk.new wr 42 #[.int .i64 x1, .int .i64 x2]).cell 1
      have y0 : (wr.alloc (.cells #[.int .i64 x1, .int .i64 x2] 42)).cell? ⟨wr.heap.size, 0, none⟩ = some (.int .i64 x1) := y0
      have y1 : (wr.alloc (.cells #[.int .i64 x1, .int .i64 x2] 42)).cell? ⟨wr.heap.size, 1, none⟩ = some (.int .i64 x2) := y1
      have HO5 := Lib.hid (HO.out.ext hxl)
      have HOU5 := Lib.hid (HOU.out.ext hxl)
      have hc := hxl.cell hc
      have HX5 := Lib.hid (HE.out.trans hxl)
      have HSZ5 := Lib.hid (Nat.le_trans HSZ.out hxl.size)
      have HFZ5 := Lib.hid (show (wr.alloc (.cells #[.int .i64 x1, .int .i64 x2] 42)).frozen? ⟨b, j, none⟩ = false by rw [frozen_of_block (hxl.block (HO.out.own.lt b rfl).2)]; exact HFZ.out)
      generalize wr.heap.size = p at *
      generalize wr.alloc (.cells #[.int .i64 x1, .int .i64 x2] 42) = w5 at *
      clear hxl xa xb
      go_wp2_with fail
      refine (HSH.out _).mono ?_
      rintro e w' ⟨rfl, rfl⟩
      go_upto_region 11 with fail
      refine wp_region_tailZ 9 [43] [40, 41, 42] Ext (fun a b => a.grownBy b (Value.ownBlock (.slice Au row.length cu))) (Ext _) (by kernel_rfl) (by kernel_rfl) (by kernel_rfl) (by kernel_rfl) (by kernel_rfl) (by kernel_rfl) (by kernel_rfl) (by rfl) (by rfl) (by kernel_rfl) (by kernel_rfl) (by kernel_rfl) (fun _ _ _ x y => x.trans y) (fun _ => World.grownBy.refl _ _) (fun _ _ x => ⟨x.os, x.tape, x.output, x.size, fun _ hk _ => x.block hk⟩) Ext.refl (Ext.refl _).drew (fun _ _ x y => x.trans y) (Ext.refl _) ?_
      repeat (first | (refine wpZ_move0 rfl rfl (fun _ => (by first | exact runs0 | exact runs1 rfl)) Ext.refl rfl rfl (fun _ => rfl) ?_; apply Exists.intro; refine ⟨?_, ?_⟩; · (go_simp; rfl)) | (refine wpZ_val rfl rfl (fun _ => (by first | exact runs0 | exact runs1 rfl)) Ext.refl rfl ?_; apply Exists.intro; refine ⟨?_, ?_⟩; · (intro c a w' hR; intro h1; (first | (have e1 : _ = _ := h1) | skip); intro h2; (first | (have e2 : _ = _ := h2) | skip); go_simp; rfl)) | (refine wpZ_val rfl rfl (fun _ => (by first | exact runs0 | exact runs1 rfl)) Ext.refl rfl ?_; apply Exists.intro; refine ⟨?_, ?_⟩; · (intro c a w' hR; intro h1; (first | (have e1 : _ = _ := h1) | skip); go_simp; rfl)) | (refine wpZ_val rfl rfl (fun _ => (by first | exact runs0 | exact runs1 rfl)) Ext.refl rfl ?_; apply Exists.intro; refine ⟨?_, ?_⟩; · (intro c a w' hR; go_simp; rfl)) | (refine wpZ_val rfl rfl (fun _ => (by first | exact runs0 | exact runs1 rfl)) Ext.refl rfl ?_; apply Exists.intro; refine ⟨?_, ?_⟩; · (intro c a w' hR; intro h1; (first | (have e1 : _ = _ := h1) | skip); intro h2; (first | (have e2 : _ = _ := h2) | skip); intro h3; (first | (have e3 : _ = _ := h3) | skip); go_simp; rfl)))
      refine wpZ_callA (fun _ v _ => v = .slice Au row.length cu) rfl rfl (by first | exact runs0 | exact runs1 rfl) rfl (keptC_eq) ?_ ?_
      · intro a w' hR hS h1 K hK
        have e1 : _ = _ := h1
        have hl := (show Ext w5 w' from hS).cell hc
        go_simp
        exact hK _ _ (Ext.refl _) rfl
      refine wpZ_callA (fun _ v _ => v = .agg #[.int .i64 x1, .int .i64 x2]) rfl rfl (by first | exact runs0 | exact runs1 rfl) rfl (keptC_eq) ?_ ?_
      · intro a w' hR hS h1 K hK
        have e1 : _ = _ := h1
        have hl0 := (show Ext w5 w' from hS).cell y0
        have hl1 := (show Ext w5 w' from hS).cell y1
        go_simp
        exact hK _ _ (Ext.refl _) rfl
      refine wpZ_callA (fun c v w => c ≤ 0 → RP w v [(x1, x2)]) rfl rfl (by first | exact runs0 | exact runs1 rfl) rfl (keptC_0 fun _ _ _ h k => RP.ext h k) ?_ ?_
      · intro a w' hR hS h1 K hK
        have e1 : _ = _ := h1
        have q9 : a.tmps[41]?.getD undef = .agg #[.int .i64 x1, .int .i64 x2] := by simpa using e1
        go_simp
        exact hK _ _ ((Ext.refl _).alloc _) fun _ => RP.lit _ #[.int .i64 x1, .int .i64 x2] 42 1 [(x1, x2)] rfl (by omega) rfl
      refine wpZ_eff (fun c v w => 1 ≤ c ∧ (c ≤ 1 → GrownR b w5.heap.size (Value.ownBlock (.slice Au row.length cu)) (row ++ [(x1, x2)]) v w)) (fun _ => True) rfl (by first | exact runs0 | exact runs1 rfl) rfl (keptC_at fun _ _ _ h k => GrownR.ext h k) (fun _ _ _ _ => trivial) ?_ ?_
      · intro a w' hR hS h1 h2 K hK
        have e1 : _ = _ := h1
        obtain ⟨y, ey, fy⟩ : ∃ x, a.tmps.getD 42 undef = x ∧ (fun v w => 0 ≤ 0 → RP w v [(x1, x2)]) x w' := ⟨_, rfl, h2⟩
        have hfy := fy (Nat.le_refl _)
        have hS' : Ext w5 w' := hS
        refine wp_app elemM _ (.tmp 40) (.tmp 42) rfl b _ row.length (pV row) e1 ((OE.op HOU5.out).ext hS').own y 1 (pV [(x1, x2)]) ey hfy.rd (one_pV _) (by have := HRB.out; omega) (by have := HRB.out; unfold maxLen; omega) (Nat.le_trans HSZ5.out hS'.size) ?_
        intro v' w2 ha
        exact hK _ _ ha.grown trivial ⟨Nat.le_refl _, fun _ => ⟨OP.app ha.own, ha.at_.imp_right fun h => ⟨_, h, hS'.size⟩⟩⟩
      refine wpZ_done ?_
      intro w6 hx6 hS6
      iterate 7 (rintro _ rfl)
      rintro v42 h42
      rintro v43 h43
      dsimp only [FinV]
      go_simp
      have hx6 : w5.grownBy w6 (Value.ownBlock (.slice Au row.length cu)) := hx6
      have hgr := h43.2 (Nat.le_refl _)
      have hbl : w6.heap[b]? = w5.heap[b]? := hx6.block b (HO5.out.own.lt b rfl).2 fun e => HUB.out e.symm
      have f0 : w6.frozen? ⟨b, j, none⟩ = false := (frozen_of_block hbl).trans HFZ5.out
      have d0 : w6.cell? ⟨b, j, none⟩ = some (.slice Au row.length cu) := (World.cell?_of_block (a := ⟨b, j, none⟩) hbl).trans hc
      obtain ⟨A43, c43, rfl⟩ := hgr.own.rp.form
      have HOV := Lib.hid (OV.grow (r := [(x1, x2)]) HO5.out HJL.out HUJ.out (l := row) HRW.out hx6 (hgr.at_.imp_right fun h => .inr h) (OP.oe hgr.own))
      have HXE := Lib.hid (show Ext w1 w6 from HX5.out.grown hx6 fun g hg => by have := (HOU5.out.own.lt g hg).1; have := HBW.out; omega)
      clear hx6 hgr hbl h42 h43 hS6 hc y0 y1
      simp only [thenTail, List.drop_succ_cons, List.drop_zero]
      go_wp2
      have hov := HOV.out
      rw [← HSN.out] at hov
      simp only [List.length_append, List.length_cons, List.length_nil, Nat.zero_add] at hov
      exact ⟨⟨k + 1, _, HLT.out, by go_num, hov, ExtQ.ext (Q := fun g => g = b) (ExtQ.setCell (Q := fun g => g = b) (p := ⟨b, j, none⟩) (ExtQ.of HXE.out) rfl _) (fun g hg => by have := HBW.out; omega)⟩, by have := HLT.out; simp [intOf]; omega⟩
    · obtain rfl : k = S.length := by omega
      have g1 : ¬ (S.length : Int) < (S.length : Int) := by omega
      have hown2 := HO.out
      rw [List.take_length] at hown2
      clear hext
      go_wp2
      go_ret2
      exact ⟨_, rfl, hown2.rv.map (fun u x q => RE.rp q), HX1.out.trans HE.out⟩
end Go.Proofs.Ytjgcalgjfhjejaa
